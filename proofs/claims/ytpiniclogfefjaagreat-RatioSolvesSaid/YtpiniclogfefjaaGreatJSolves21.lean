import Derived.Test.YtpiniclogfefjaaGreatJSolves20
import Derived.Laws.Slices
namespace Wx
open Go Go.RowKit

section
variable {P:Program} {Q:Exit→Act→World→Prop} {c:Cfg} {V:List Vr} {A:List Al} {G:List Ent} {a:Act} {w:World}
end
def itR (q:Rat):It:=⟨Qv q,Zf q⟩
def Zm (v:Value):It:=⟨Qi v,Y2 v⟩
def Uf:It:=⟨Q4,numlike_any⟩
def Xj (l:List Rat) (p:Nat):List It:=l.map itR++List.replicate (p-l.length) Uf
theorem Kw {l:List Rat} {p k:Nat} (h:k<l.length):(Xj l p)[k]?=some (itR (l.getD k 0)):=by
 unfold Xj
 rw[List.getElem?_append_left (by rw[List.length_map]; exact h),List.getElem?_map,List.getD_eq_getElem?_getD,List.getElem?_eq_getElem h]
 rfl
theorem Uu (l:List Rat) (p:Nat):(Xj l p).length=max l.length p:=by
 unfold Xj
 rw[List.length_append,List.length_map,List.length_replicate]
 omega
theorem Qgu {l:List Rat} {p k:Nat} (h:k<l.length):k<(Xj l p).length:=by rw[Uu]; omega
theorem Qht {l:List Rat} {p k:Nat} {q:Rat} (h:k<l.length):(Xj l p).set k (itR q)=Xj (l.set k q) p:=by
 unfold Xj
 rw[List.set_append_left _ _ (by rw[List.length_map]; exact h),List.map_set,List.length_set]
theorem Qhs {l:List Rat} {p i:Nat} {it:It} (h:l.length≤i) (hi:(Xj l p)[i]?=some it):it=Uf:=by
 unfold Xj at hi
 rw[List.getElem?_append_right (by rw[List.length_map]; exact h)]at hi
 exact List.eq_of_mem_replicate (List.mem_of_getElem? hi)
def Ue (H:List Bk) (b:Nat) (X:List It):List Bk:=H.map fun e=>if e.b=b then { e with items:=X }else e
theorem hup_b (H:List Bk) (b:Nat) (X:List It):(Ue H b X).map Bk.b=H.map Bk.b:=by
 unfold Ue
 rw[List.map_map]
 apply List.map_congr_left
 intro e _
 show(if e.b=b then { e with items:=X }else e).b=e.b
 split<;>rfl
theorem Qeb {H:List Bk} {b:Nat} {X:List It} {e:Bk} (he:e∈H) (hb:e.b=b):({ e with items:=X }:Bk)∈Ue H b X:=List.mem_map.2 ⟨e,he,if_pos hb⟩
theorem Qbw {H:List Bk} {b:Nat} {X:List It} {e:Bk} (he:e∈H) (hb:e.b≠b):e∈Ue H b X:=List.mem_map.2 ⟨e,he,if_neg hb⟩
theorem Qgh (H:List Bk) (b:Nat) (X:List It) (idx:Nat) (it:It):Ye (Ue H b X) b idx it=Ue H b (X.set idx it):=by
 unfold Ye Ue
 rw[List.map_map]
 apply List.map_congr_left
 intro e _
 show(if e.b=b then { e with items:=X }else e).put b idx it=_
 by_cases h:e.b=b
 ·rw[if_pos h,if_pos h]
  exact if_pos h
 ·rw[if_neg h,if_neg h]
  exact if_neg h
theorem Qcv {H:List Bk} {b:Nat} {X:List It} (hu:∀e,e∈H→e.b=b→e.items=X):Ue H b X=H:=by
 unfold Ue
 have:(fun e:Bk=>if e.b=b then { e with items:=X }else e)=fun e=>if e.b=b then { e with items:=X }else e:=rfl
 conv=>rhs; rw[← List.map_id H]
 apply List.map_congr_left
 intro e he
 show(if e.b=b then { e with items:=X }else e)=e
 split
 ·rename_i h
  rw[← hu e he h]
 ·rfl
end Wx

namespace Wx
open Go Go.RowKit

def pClo (f:FuncId) (sz:Nat) (agg:Bool) (q:Qg):Qg:=fun w v=>∃u,v=.func (.func f) #[] #[u]∧Wr sz agg q w u
section
variable {P:Program} {ops:Array Oper} {ms:List Nat} {c:Cfg} {V:List Vr} {A:List Al} {G:List Ent} {i:Nat} {L:Nat→Bool} {β:Nat→Nat→Prop} {a:Act} {w:World} {o:Oper}
variable {d:Nat} {x y z:Operand} {ty:TypeId} {pos:String} {aft:Array Edge}
theorem op_sliceLo {T E:TypeId} {sz b o' n cap:Nat} {m:Int} (h:Has ms G i x (Qi (.slice (some ⟨b,o',none⟩) n cap))) (hy:Has ms G i y (pI m)) (ht:SlTy P T E sz) (h0:0≤m) (h1:m≤n) (h2:m<cap)
  (hp:Post G i (Qi (.slice (some ⟨b,o'+m.toNat*sz,none⟩) (n-m.toNat) (cap-m.toNat)))):Q0 P ops ms c V A G i ⟨some d,.slice T x (some y) none none,ty,pos,aft,none⟩:=
 Vu rfl rfl rfl (.inl rfl) hp fun L β a w hI hd=>by
  have hx:a.eval x=.slice (some ⟨b,o',none⟩) n cap:=(h.spec hI hd).out
  have hi:a.eval y=.int .i64 m:=(hy.spec hI hd).out
  refine⟨_,w,?_,Below.refl _ _,fun _ _=>rfl⟩
  show(do pure (Next.value (← Instr.sliceAt T (a.eval x) (some (a.eval y)) none none))).run P w=_
  rw[hx,hi]
  have hr:(Instr.sliceAt T (.slice (some ⟨b,o',none⟩) n cap) (some (.int .i64 m)) none none).run P w=.ok (.slice (some ⟨b,o'+m.toNat*sz,none⟩) (n-m.toNat) (cap-m.toNat)) w:=by
   have e1:(Instr.sliceBound (.int .i64 m) n .sliceB).run P w=.ok m.toNat w:=run_sliceBound w .i64 m n .sliceB h0 h1
   have hne:¬cap=m.toNat:=by omega
   simp only[Instr.sliceAt,Sem.run_bind,run_underlying ht.under,Result.andThen_ok,Instr.slice,Instr.sliceBounds,Sem.run_pure]
   simp only[Option.isSome_none,Bool.false_eq_true,if_false,e1,Result.andThen_ok,ht.size w,hne,Option.map_some,Addr.add_mid]
  rw[Sem.run_bind,hr]
  rfl
theorem Qe1 {f:FuncId} {v:Value} (h:Has ms G i x (Qi v)) (hp:Post G i (Qi (.func (.func f) #[] #[v]))):Q0 P ops ms c V A G i ⟨some d,.makeFunc (.func f) #[] #[x],ty,pos,aft,none⟩:=
 Qc2 rfl rfl rfl rfl h hp fun ρ w h=>⟨.func (.func f) #[] #[v],by
  have h:ρ x=v:=h
  show(do pure (Next.value (← Instr.makeFunc (.func f) ((#[]:Array Operand).map ρ) ((#[x]:Array Operand).map ρ)))).run P w=_
  rw[show(#[x]:Array Operand).map ρ=#[ρ x] by simp,show(#[]:Array Operand).map ρ=#[] by simp,h]
  rfl,fun _ _=>rfl⟩
theorem op_callc1 {f:FuncId} {fx:Operand} {ts:Array TypeId} {sz:Nat} {agg:Bool} {p q p1:Qg} (hf:Y0 P f) (hx:Has ms G i fx (pClo f sz agg q)) (h1:Has ms G i x p1) (hp:Post G i p)
  (hc:∀(M:Nat→Nat→Prop) (w:World) (v1 v2:Value),Mid M w→Box M (fun w=>p1 w v1) w→Box M (fun w=>Wr sz agg q w v2) w→Calls P f #[v1,v2] w (RetB M p w)):Q0 P ops ms c V A G i ⟨some d,.call ⟨.value fx,#[x],ts⟩,ty,pos,aft,none⟩:=by
 refine Wh (fun L β a w hI hd hwf=>?_) rfl
 have hb:=hx.spec hI hd
 obtain⟨u,hfv,_⟩:=hb.out
 have hu:Box (own c V L β) (fun w=>Wr sz agg q w u) w:=fun w' he=>by
  obtain⟨u',e,h⟩:=hb w' he
  rw[hfv]at e
  injection e with _ _ e
  have:u=u':=by simpa using e
  rw[this]
  exact h
 have hr:(execOp a.eval ⟨some d,.call ⟨.value fx,#[x],ts⟩,ty,pos,aft,none⟩).run P w=.ok (.enter f #[a.eval x,u]) w:=by
  have:=hf #[a.eval x,u] w
  simp only[execOp,resolve,hfv,Deferred.ofValue,pure_bind,invoke]
  rw[show(#[x]:Array Operand).map a.eval=#[a.eval x] by simp]
  first|exact this|simpa using this
 unfold Does
 rw[hr]
 refine(hc _ w _ _ (Yq hI) (h1.spec hI hd) hu).mono ?_
 rintro e w' ⟨v,rfl,hv,hb⟩
 exact⟨v,rfl,β,hI.value hwf (nb_of hwf rfl) rfl hb (fun d q _ hq hqt _=>by have:=hwf.aa q hq hqt; cases this) fun e he ht=>hv.imp fun w=>hp.spec hwf he ht w v⟩
theorem Inv.openPtr (h:Inv c V A G Qf a w) (k:Nat) {x:Vr} (hk:V[k]?=some x) (hb:live Qf x=true) (hkd:x.kd=.ptr):∃g,Inv c V A (⟨none,none,x.slot,Qi (.pointer (some ⟨g,0,none⟩))⟩::G) Qf a w:=by
 obtain⟨β,h⟩:=h
 obtain⟨g,_,h2,_⟩:=(Zy (by rw[hkd]; rfl)).1 (h.var x (List.mem_of_getElem? hk) hb)
 refine⟨g,β,h.size,h.defers,h.below,h.old,h.var,h.apart,h.al,fun e he ho hf=>?_⟩
 rcases List.mem_cons.1 he with rfl|he
 ·refine fun w' _=>?_
  show sl a x.slot=_
  rw[h2,hkd]
  rfl
 ·exact h.ent e he ho hf
theorem op_callRO {f:FuncId} {ts:Array TypeId} {v1 v2:Vr} {H:List Bk} {g:Nat} {cf:FuncId} {p p0 p1 q:Qg} (hf:Y0 P f) (k1:Nat) (hk1:V[k1]?=some v1) (ho1:Zi ms i v1=true) (hkd1:v1.kd=.obj) (hst1:(v1.st.all fun q=>(q.1==i||(ms.getD i 0).testBit q.1)||(ms.getD q.1 0).testBit i)=true)
  (hc1:cont (fun j=>(ms.getD i 0).testBit j) v1.c0 v1.st=Zo H) (k2:Nat) (hk2:V[k2]?=some v2) (ho2:Zi ms i v2=true) (hkd2:v2.kd=.ptr) (hst2:(v2.st.all fun q=>(ms.getD i 0).testBit q.1||(ms.getD q.1 0).testBit i)=true) (hc2:cont (fun j=>(ms.getD i 0).testBit j) v2.c0 v2.st=pv q)
  (hg:Has ms G i (.tmp v2.slot) (Qi (.pointer (some ⟨g,0,none⟩)))) (h1:Has ms G i x p0) (h2:Has ms G i y (Qi (.func (.func cf) #[] #[.pointer (some ⟨g,0,none⟩)]))) (hn:Zg p) (hp:Post G i p) (hr:∀B w v,HpOk B w H→p0 w v→p1 w v)
  (hc:∀(M:Nat→Nat→Prop) (w:World) (u1 u2:Value),Mid M w→Box M (fun w=>p1 w u1) w→Box M (fun w=>pClo cf v2.n v2.agg q w u2) w→Calls P f #[u1,u2] w (RetB M p w)):
  Q0 P ops ms c V A G i ⟨some d,.call ⟨.value (.func f),#[x,y],ts⟩,ty,pos,aft,none⟩:=
 Qb0 hf hp fun L β a w hI hd=>(by
  rw[show(#[x,y]:Array Operand).map a.eval=#[a.eval x,a.eval y] by simp]
  have hO:=obj_at hI hd (List.mem_of_getElem? hk1) ho1 hkd1
  have hH:HpOk (β v1.id) w H:=by
   have:=hO.2.out
   rw[Qcr hd hst1,hc1]at this
   exact this
  obtain⟨g',hg',hs',hv⟩:=Qed hI hd (List.mem_of_getElem? hk2) ho2 hkd2
  have e1:sl a v2.slot=.pointer (some ⟨g,0,none⟩):=(hg.spec hI hd).out
  rw[hs']at e1
  injection e1 with e1
  injection e1 with e1
  injection e1 with e1
  subst e1
  obtain⟨cs,j1,j2,j3,j4⟩:=hv.held
  rw[Qd7 hd hst2,hc2]at j4
  have j4:Box (own c V L β) (fun w=>q w (Xd v2.agg cs)) w:=j4
  have hy:a.eval y=.func (.func cf) #[] #[.pointer (some ⟨g',0,none⟩)]:=(h2.spec hI hd).out
  let M:=Kr (own c V L β) fun k=>β v1.id k∨k=g'
  have hM:Mid M w:=fun k o hk=>Yq hI k o hk.1
  have hsub:∀{w'},Ext M w w'→Ext (own c V L β) w w':=fun he=>he.mono' fun k o hk=>hk.1
  refine(hc M w _ _ hM (fun w' he=>?_) (fun w' he=>?_)).mono fun e w' hret=>?_
  ·refine hr (β v1.id) w' _ (hH.keep (Yq hI) (hsub he) fun e hm=>he.block e.b (Bk.ok_lt (hH.2.2 e hm)) fun o ho=>ho.2 (.inl ((hH.1 _).2 ⟨e,hm,rfl⟩))) (h1.spec hI hd w' (hsub he))
  ·refine⟨.pointer (some ⟨g',0,none⟩),hy,g',0,cs,rfl,j2,fun j u hj=>?_,j4 w' (hsub he)⟩
   rw[Nat.zero_add]
   refine he.cell g' j u (fun ho=>ho.2 (.inr rfl)) ?_
   simp only[World.cell?,j1]
   simpa using hj
  ·obtain⟨v,rfl,hv1,hv2⟩:=hret
   exact⟨v,rfl,hn _ w' v ((Yq hI).below hv2) hv1.out,hv2⟩)
end
def Ju (p:Nat→Bool) (n:Nat):Int:=match (List.range n).find? p with
 |some i=>(i:Int)
 |none => -1
theorem firstI_yes {p:Nat→Bool} {n k:Nat} (hk:k<n) (h:p k=true) (hn:∀j,j<k→p j=false):Ju p n=(k:Int):=by
 unfold Ju
 have:(List.range n).find? p=some k:=by
  rw[List.find?_range_eq_some]
  exact⟨h,by simpa using hk,fun j hj=>by simp[hn j hj]⟩
 rw[this]
theorem Qhe {p:Nat→Bool} {n:Nat} (hn:∀j,j<n→p j=false):Ju p n = -1:=by
 unfold Ju
 have:(List.range n).find? p=none:=by
  rw[List.find?_eq_none]
  intro j hj
  rw[hn j (by simpa using hj)]
  exact Bool.false_ne_true
 rw[this]
end Wx

namespace Wx
open Go Go.RowKit

theorem Qdk {H H':List Bk} {B:Nat→Prop} (h:H=H'):∀w v,Zo H B w v→Zo H' B w v:=fun _ _ k=>h▸k
theorem hup_items {B:Nat→Prop} {w:World} {H:List Bk} (hH:HpOk B w H) {e x:Bk} (he:e∈H) (hx:x∈H) (hb:e.b=x.b):e.items=x.items:=by rw[Qho hH.2.1 he hx hb]
theorem Vo (A:Option Addr) (n cap:Nat):J4 1 false (Qi (.slice A n cap)):=fits_eq (Jz _ _ _) rfl rfl
def Ka (L1:List Rat) (s1:Nat) (L2:List Rat) (s2:Nat) (f:Rat) (k:Nat):List Rat:=L1.mapIdx fun i x=>if s1≤i∧i<s1+k then x-f*L2.getD (s2+(i-s1)) 0 else x
section
variable {L1 L2:List Rat} {s1 s2 k:Nat} {f:Rat}
theorem Qb1:(Ka L1 s1 L2 s2 f k).length=L1.length:=by unfold Ka; exact List.length_mapIdx
theorem redAt_zero:Ka L1 s1 L2 s2 f 0=L1:=by
 unfold Ka
 apply List.ext_getElem?
 intro i
 rw[List.getElem?_mapIdx]
 cases h:L1[i]? with
 |none=>rfl
 |some x=>
  show some (if s1≤i∧i<s1+0 then _ else x)=some x
  rw[if_neg (by omega)]
theorem redAt_getD {i:Nat} (hi:s1+k≤i):(Ka L1 s1 L2 s2 f k).getD i 0=L1.getD i 0:=by
 unfold Ka
 rw[List.getD_eq_getElem?_getD,List.getD_eq_getElem?_getD,List.getElem?_mapIdx]
 cases h:L1[i]? with
 |none=>rfl
 |some x=>
  show(some (if s1≤i∧i<s1+k then _ else x)).getD 0=(some x).getD 0
  rw[if_neg (by omega)]
theorem redAt_item {p:Nat} (h:s1+k<L1.length):(Xj (Ka L1 s1 L2 s2 f k) p)[s1+k]?=some (itR (L1.getD (s1+k) 0)):=by
 rw[Kw (by rw[Qb1]; exact h),redAt_getD (Nat.le_refl _)]
theorem redAt_step (h:s1+k<L1.length):(Ka L1 s1 L2 s2 f k).set (s1+k) (L1.getD (s1+k) 0-f*L2.getD (s2+k) 0)=Ka L1 s1 L2 s2 f (k+1):=by
 unfold Ka
 apply List.ext_getElem?
 intro i
 by_cases hi:i=s1+k
 ·subst hi
  rw[List.getElem?_set_self (by rw[List.length_mapIdx]; exact h),List.getElem?_mapIdx,List.getD_eq_getElem?_getD,List.getElem?_eq_getElem h]
  show some (L1[s1+k]-f*L2.getD (s2+k) 0)=some (if s1≤s1+k∧s1+k<s1+(k+1)then L1[s1+k]-f*L2.getD (s2+(s1+k-s1)) 0 else L1[s1+k])
  rw[if_pos (by omega),show s1+k-s1=k by omega]
 ·rw[List.getElem?_set_ne (Ne.symm hi),List.getElem?_mapIdx,List.getElem?_mapIdx]
  cases h:L1[i]? with
  |none=>rfl
  |some x=>
   show some (if s1≤i∧i<s1+k then _ else x)=some (if s1≤i∧i<s1+(k+1)then _ else x)
   by_cases hb:s1≤i∧i<s1+k
   ·rw[if_pos hb,if_pos (by omega)]
   ·rw[if_neg hb,if_neg (by omega)]
end
theorem bd_getD {l:List Rat} {j:Nat} (h:∀x,x∈l→BdR j x) {k:Nat} (hk:k<l.length):BdR j (l.getD k 0):=by
 rw[List.getD_eq_getElem?_getD,List.getElem?_eq_getElem hk]
 exact h _ (List.getElem_mem hk)
end Wx

namespace Wx
open Go Go.RowKit

structure RowL where
 b:Nat
 n:Nat
 cap:Nat
def RowL.hdr (r:RowL):Value:=.slice (some ⟨r.b,0,none⟩) r.n r.cap
def Jb (R:List RowL):List It:=R.map fun r=>Zm r.hdr
structure MatOk (g cap:Nat) (R:List RowL) (M:List (List Rat)) (H:List Bk):Prop where
 top:(⟨g,1,false,Jb R⟩:Bk)∈H
 rows:∀(i:Nat) (r:RowL),R[i]?=some r→(⟨r.b,3,true,Xj (M.getD i []) r.cap⟩:Bk)∈H
 len:R.length=M.length
 fit:∀(i:Nat) (r:RowL),R[i]?=some r→r.n=(M.getD i []).length∧r.n≤r.cap∧r.cap≤maxLen
 apart:∀(i j:Nat) (r q:RowL),R[i]?=some r→R[j]?=some q→i≠j→r.b≠q.b
 off:∀r:RowL,r∈R→r.b≠g
 size:R.length≤cap∧cap≤maxLen
theorem Vb {R:List RowL} {i:Nat} {r:RowL} (h:R[i]?=some r):(Jb R)[i]?=some (Zm r.hdr):=by
 unfold Jb
 rw[List.getElem?_map,h]
 rfl
theorem Qfa (R:List RowL):(Jb R).length=R.length:=List.length_map ..
theorem tops_set (R:List RowL) (i:Nat) (r:RowL):(Jb R).set i (Zm r.hdr)=Jb (R.set i r):=by
 unfold Jb
 rw[List.map_set]
theorem heap_rats {B:Nat→Prop} {w:World} {H:List Bk} {b n cap p:Nat} {l:List Rat} (h:HpOk B w H) (he:(⟨b,3,true,Xj l p⟩:Bk)∈H) (hn:n=l.length) (hc:n≤cap) (hm:cap≤maxLen):Qe l w (.slice (some ⟨b,0,none⟩) n cap):=by
 subst hn
 obtain⟨cs,T,h1,h2,_,h4⟩:=h.2.2 _ he
 have h1:w.heap[b]?=some (.cells cs.toArray T (0,0)):=h1
 have h2:(Xj l p).length*3≤cs.length:=h2
 rw[Uu]at h2
 refine⟨_,_,rfl,hc,hm,fun _=>⟨b,0,rfl,fun i hi=>⟨(cs.drop (i*3)).take 3,?_,fun j v hj=>?_,?_⟩⟩⟩
 ·rw[List.length_take,List.length_drop]
  omega
 ·rw[Nat.zero_add]
  exact W4 h1 _ _ j v hj
 ·exact h4 i _ (Kw hi)
theorem MatOk.get {g cap:Nat} {R:List RowL} {M:List (List Rat)} {H:List Bk} (h:MatOk g cap R M H) {i:Nat} (hi:i<M.length):∃r,R[i]?=some r:=⟨R[i]'(by rw[h.len]; exact hi),List.getElem?_eq_getElem _⟩
theorem heap_rows {B:Nat→Prop} {w:World} {H:List Bk} {g cap c:Nat} {R:List RowL} {M:List (List Rat)} (h:HpOk B w H) (hM:MatOk g cap R M H) (hc:c≤M.length):Qc 1 false (M.length-c) (fun i=>Qe (M.getD (c+i) [])) w (.slice (some ⟨g,c,none⟩) (M.length-c) (cap-c)):=by
 obtain⟨cs,T,h1,h2,_,h4⟩:=h.2.2 _ hM.top
 have h1:w.heap[g]?=some (.cells cs.toArray T (0,0)):=h1
 have h2:(Jb R).length*1≤cs.length:=h2
 rw[Qfa,hM.len]at h2
 have hs:=hM.size
 rw[hM.len]at hs
 refine⟨_,_,rfl,by omega,by omega,fun _=>⟨g,c,rfl,fun i hi=>⟨(cs.drop (c+i)).take 1,?_,fun j v hj=>?_,?_⟩⟩⟩
 ·rw[List.length_take,List.length_drop]
  omega
 ·rw[Nat.mul_one]
  exact W4 h1 _ _ j v hj
 ·obtain⟨r,hr⟩:=hM.get (i:=c+i) (by omega)
  have h5:=h4 (c+i) _ (Vb hr)
  have h5:Xd false ((cs.drop ((c+i)*1)).take 1)=r.hdr:=h5
  rw[Nat.mul_one]at h5
  obtain⟨f1,f2,f3⟩:=hM.fit _ _ hr
  show Qe (M.getD (c+i) []) w (Xd false ((cs.drop (c+i)).take 1))
  rw[h5]
  exact heap_rats h (hM.rows _ _ hr) f1 f2 f3
def J1 {α:Type} (l:List α) (a b:Nat):List α:=match l[a]?,l[b]? with
 |some x,some y=>(l.set a y).set b x
 |_,_=>l
theorem swapL_of {α:Type} {l:List α} {a b:Nat} {x y:α} (hx:l[a]?=some x) (hy:l[b]?=some y):J1 l a b=(l.set a y).set b x:=by unfold J1; rw[hx,hy]
theorem Qas {α:Type} {l:List α} {a b:Nat} {x y:α} (hx:l[a]?=some x) (hy:l[b]?=some y) (i:Nat):(J1 l a b)[i]?=if i=b then some x else if i=a then some y else l[i]?:=by
 have ha:a<l.length:=by
  rcases Nat.lt_or_ge a l.length with h|h
  ·exact h
  ·rw[List.getElem?_eq_none h]at hx; cases hx
 have hb:b<l.length:=by
  rcases Nat.lt_or_ge b l.length with h|h
  ·exact h
  ·rw[List.getElem?_eq_none h]at hy; cases hy
 rw[swapL_of hx hy]
 by_cases h1:i=b
 ·subst h1
  rw[if_pos rfl,List.getElem?_set_self (by rw[List.length_set]; exact hb)]
 ·rw[if_neg h1,List.getElem?_set_ne (Ne.symm h1)]
  by_cases h2:i=a
  ·subst h2
   rw[if_pos rfl,List.getElem?_set_self ha]
  ·rw[if_neg h2,List.getElem?_set_ne (Ne.symm h2)]
theorem Qfq {α:Type} (l:List α) (a b:Nat):(J1 l a b).length=l.length:=by
 unfold J1
 split<;>simp
theorem MatOk.swap {g cap:Nat} {R:List RowL} {M:List (List Rat)} {H:List Bk} (h:MatOk g cap R M H) {a b:Nat} (ha:a<M.length) (hb:b<M.length):MatOk g cap (J1 R a b) (J1 M a b) (Ue H g (Jb (J1 R a b))):=by
 obtain⟨x,hx⟩:=h.get ha
 obtain⟨y,hy⟩:=h.get hb
 have mx:M[a]?=some (M.getD a []):=by rw[List.getD_eq_getElem?_getD,List.getElem?_eq_getElem ha]; rfl
 have my:M[b]?=some (M.getD b []):=by rw[List.getD_eq_getElem?_getD,List.getElem?_eq_getElem hb]; rfl
 have gR:=Qas hx hy
 have gM:=Qas mx my
 -- row i of the exchanged one is row s i
 have key:∀i r,(J1 R a b)[i]?=some r→∃j,R[j]?=some r∧(J1 M a b).getD i []=M.getD j []∧((i=b∧j=a)∨(i≠b∧i=a∧j=b)∨(i≠b∧i≠a∧j=i)):=by
  intro i r hr
  rw[gR i]at hr
  have hg:(J1 M a b).getD i []=(if i=b then some (M.getD a [])else if i=a then some (M.getD b [])else M[i]?).getD []:=by rw[List.getD_eq_getElem?_getD,gM i]
  rw[hg]
  by_cases h1:i=b
  ·rw[if_pos h1]at hr ⊢
   exact⟨a,hx.trans hr,rfl,.inl ⟨h1,rfl⟩⟩
  ·rw[if_neg h1]at hr ⊢
   by_cases h2:i=a
   ·rw[if_pos h2]at hr ⊢
    exact⟨b,hy.trans hr,rfl,.inr (.inl ⟨h1,h2,rfl⟩)⟩
   ·rw[if_neg h2]at hr ⊢
    exact⟨i,hr,by rw[List.getD_eq_getElem?_getD],.inr (.inr ⟨h1,h2,rfl⟩)⟩
 have off':∀r,r∈J1 R a b→r.b≠g:=fun r hr=>by
  obtain⟨i,hi⟩:=List.mem_iff_getElem?.1 hr
  obtain⟨j,hj,_⟩:=key i r hi
  exact h.off r (List.mem_of_getElem? hj)
 refine⟨Qeb h.top rfl,fun i r hr=>?_,by rw[Qfq,Qfq]; exact h.len,fun i r hr=>?_,fun i j r q hr hq hne=>?_,off',by rw[Qfq]; exact h.size⟩
 ·obtain⟨j,hj,e,_⟩:=key i r hr
  rw[e]
  exact Qbw (h.rows j r hj) (h.off r (List.mem_of_getElem? hj))
 ·obtain⟨j,hj,e,_⟩:=key i r hr
  rw[e]
  exact h.fit j r hj
 ·obtain⟨i',hi',_,e1⟩:=key i r hr
  obtain⟨j',hj',_,e2⟩:=key j q hq
  exact h.apart i' j' r q hi' hj' (by omega)
theorem hset_mem {H:List Bk} {b idx:Nat} {it:It} {e:Bk} (he:e∈H) (hb:e.b=b):({ e with items:=e.items.set idx it }:Bk)∈Ye H b idx it:=List.mem_map.2 ⟨e,he,if_pos hb⟩
theorem heap_swap {H:List Bk} {g a b:Nat} {R:List RowL} {x y:RowL} (hu:∀e,e∈H→e.b=g→e.items=Jb R) (hx:R[a]?=some x) (hy:R[b]?=some y):Ye (Ye H g a (Zm y.hdr)) g b (Zm x.hdr)=Ue H g (Jb (J1 R a b)):=by
 have e:Ue H g (Jb R)=H:=Qcv hu
 rw[swapL_of hx hy,← tops_set,← tops_set,← Qgh,← Qgh,e]
theorem firstI_range (p:Nat→Bool) (n:Nat):-1≤Ju p n∧Ju p n<n:=by
 unfold Ju
 split
 ·rename_i i h
  have:=List.mem_of_find?_eq_some h
  have:i<n:=by simpa using this
  omega
 ·omega
def Xw (X:List (List Rat)) (c:Nat):Int:=Ju (fun i=>!(decide ((X.getD (c+i) []).getD c 0=0))) (X.length-c)
theorem Ws {X:List (List Rat)} {c:Nat} (hc:c<X.length):-1≤Xw X c∧(c:Int)+Xw X c<X.length:=by
 have:=firstI_range (fun i=>!(decide ((X.getD (c+i) []).getD c 0=0))) (X.length-c)
 unfold Xw
 omega
def Xg {α:Type} (X:List (List Rat)) (l:List α) (c:Nat):List α:=if Xw X c<0 then l else J1 l c (c+(Xw X c).toNat)
theorem MatOk.pivot {g cap:Nat} {R:List RowL} {X:List (List Rat)} {H:List Bk} (h:MatOk g cap R X H) {c:Nat} (hc:c<X.length) (hu:∀e,e∈H→e.b=g→e.items=Jb R):MatOk g cap (Xg X R c) (Xg X X c) (Ue H g (Jb (Xg X R c))):=by
 unfold Xg
 split
 ·rw[Qcv hu]
  exact h
 ·have:=Ws hc
  exact h.swap hc (by omega)
theorem MatOk.setRow {g cap:Nat} {R:List RowL} {M:List (List Rat)} {H:List Bk} (h:MatOk g cap R M H) {a:Nat} {x:RowL} (hx:R[a]?=some x) {l:List Rat} (hl:l.length=(M.getD a []).length):MatOk g cap R (M.set a l) (Ue H x.b (Xj l x.cap)):=by
 have ha:a<M.length:=by
  rw[← h.len]
  rcases Nat.lt_or_ge a R.length with h'|h'
  ·exact h'
  ·rw[List.getElem?_eq_none h']at hx; cases hx
 have eq:∀i,(M.set a l).getD i []=if i=a then l else M.getD i []:=fun i=>by
  rw[List.getD_eq_getElem?_getD]
  by_cases hi:i=a
  ·subst hi
   rw[if_pos rfl,List.getElem?_set_self ha]
   rfl
  ·rw[if_neg hi,List.getElem?_set_ne (Ne.symm hi),List.getD_eq_getElem?_getD]
 refine⟨Qbw h.top (Ne.symm (h.off x (List.mem_of_getElem? hx))),fun i r hr=>?_,by rw[List.length_set]; exact h.len,fun i r hr=>?_,h.apart,h.off,h.size⟩
 ·rw[eq]
  by_cases hi:i=a
  ·subst hi
   rw[hx]at hr
   injection hr with hr
   subst hr
   rw[if_pos rfl]
   exact Qeb (h.rows i x hx) rfl
  ·rw[if_neg hi]
   exact Qbw (h.rows i r hr) (h.apart i a r x hr hx hi)
 ·rw[eq]
  obtain⟨f1,f2,f3⟩:=h.fit i r hr
  by_cases hi:i=a
  ·subst hi
   rw[if_pos rfl,hl]
   exact⟨f1,f2,f3⟩
  ·rw[if_neg hi]
   exact⟨f1,f2,f3⟩
end Wx

namespace Wx
open Go Go.RowKit

structure MatL where
 g:Nat
 cap:Nat
 R:List RowL
 H:List Bk
def MatL.hd (n:Nat) (l:MatL):Value:=.slice (some ⟨l.g,0,none⟩) n l.cap
section
variable {P:Program} {Q:Exit→Act→World→Prop} {c:Cfg} {V:List Vr} {A:List Al} {G:List Ent} {a:Act} {w:World} {o:Oper}
variable {d:Nat} {x y z u:Operand} {ty:TypeId} {pos:String} {aft:Array Edge}
theorem DoesG.mono {ops:Array Oper} {K K':Act→World→Prop} (h:DoesG P ops o a w K) (hK:∀a w,K a w→K' a w):DoesG P ops o a w K':=by
 unfold DoesG at *
 split at h
 ·rename_i hw
  rw[if_pos hw]
  exact h.mono hK
 ·rename_i hw
  rw[if_neg hw]
  exact hK _ _ h
theorem step_callO1 {Λ:Type} {C:Λ→Prop} {hd:Λ→Value} {H:Λ→List Bk} {p1:Qg} (id:Nat) {f:FuncId} {ts:Array TypeId} {ops:Array Oper} (hf:Y0 P f) (h:Inv c V [] G Qf a w) (h1:Has [0] G 0 x p1)
  (hc:∀(M:Nat→Nat→Prop) w v1,Mid M w→Box M (fun w=>p1 w v1) w→Calls P f #[v1] w (RetO C hd H w)) (hd':decide (d<c.N)=true) (hV:(V.all fun y=>(y.slot != d&&y.id != id)&&(y.born.isNone&&y.dead.isNone))=true) (hG:(G.all fun e=>e.slot != d)=true):
  DoesG P ops ⟨some d,.call ⟨.value (.func f),#[x],ts⟩,ty,pos,aft,none⟩ a w (fun a w=>∃l,C l∧Inv c (Yi id d (H l)::V) [] (⟨none,none,d,Qi (hd l)⟩::G) Qf a w):=
 step_callO hf h (fun β hI=>by
  rw[show(#[x]:Array Operand).map a.eval=#[a.eval x] by simp]
  exact hc _ w _ (Yq hI) (h1.spec hI det0)) hd' hV hG
end
end Wx
