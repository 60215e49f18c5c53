import Derived.Test.YtpiniclogfefjaaGreatCSolvesSemAppend
import Derived.Test.YtpiniclogfefjaaGreatJSolves19
namespace Wx
open Go Go.RowKit

def plus (M:Nat→Nat→Prop) (B:Nat→Prop) (k o:Nat):Prop:=M k o∨B k
def RetO {Λ:Type} (C:Λ→Prop) (hd:Λ→Value) (H:Λ→List Bk) (w:World) (e:Ending) (w':World):Prop:=∃(l:Λ) (B:Nat→Prop),C l∧e=.returned (hd l)∧Below w.heap.size w w'∧(∀k,B k→w.heap.size≤k)∧HpOk B w' (H l)
def RetL (M:Nat→Nat→Prop) (B:Nat→Prop) (p:Qg) (H:List Bk) (w:World) (e:Ending) (w':World):Prop:=∃v,e=.returned v∧Box M (fun w=>p w v) w'∧Lent B w w'∧HpOk B w' H
abbrev Yi (id s:Nat) (H:List Bk):Vr:=⟨id,s,none,none,.obj,0,0,false,Zo H,[]⟩
theorem det0:Det [0] 0 Qf:=⟨rfl,fun j h=>by simp at h,fun _ _=>rfl⟩
theorem Qc3 {α:Type} {l:List α} {x y:α} {i j:Nat} (hi:l[i]?=some x) (hj:l[j]?=some y) (h:i<j):[x,y].Sublist l:=by
 induction l generalizing i j with
 |nil=>simp at hi
 |cons z l ih=>
  cases j with
  |zero=>omega
  |succ j=>
   simp at hj
   cases i with
   |zero=>
    simp at hi
    subst hi
    exact(List.singleton_sublist.2 (List.mem_of_getElem? hj)).cons_cons _
   |succ i=>
    simp at hi
    exact(ih hi hj (by omega)).cons _
section
variable {P:Program} {Q:Exit→Act→World→Prop} {c:Cfg} {V:List Vr} {A:List Al} {G:List Ent} {a:Act} {w:World} {o:Oper}
variable {d:Nat} {x y z:Operand} {ty:TypeId} {pos:String} {aft:Array Edge}
theorem Does.mono {K K':Act→World→Prop} (h:Does P o a w K) (hK:∀a w,K a w→K' a w):Does P o a w K':=by
 unfold Does at *
 generalize (execOp a.eval o).run P w=r at *
 match r,h with
 |.ok (.value v) w',h=>exact hK _ _ h
 |.ok .skip w',h=>exact hK _ _ h
 |.ok (.enter f args) w',h=>exact h.mono fun e w'' ⟨v,h1,h2⟩=>⟨v,h1,hK _ _ h2⟩
theorem DoesG.of {ops:Array Oper} {K:Act→World→Prop} (hg:o.guard=none) (h:Does P o a w K):DoesG P ops o a w K:=by
 unfold DoesG
 rw[if_pos (by simp[Region.wanted,hg])]
 exact h
theorem single {ops:Array Oper} {V1 V2:List Vr} {A1:List Al} {G1 G2:List Ent} (h:Inv c V A G Qf a w) (hg:o.guard=none) (hV:Qbd V1=V) (hA:Qdn A1=A) (hG:Qbc G1=G) (hwf:wfB c.N [o] V1 A1 G1=true)
  (hs:Q0 P #[o] [0] c V1 A1 G1 0 o) (kv kg:List Nat) (hV2:Ug kv (keptV V1)=V2) (hG2:Ug kg ((G1.filter fun e=>e.till.isNone).map Qc5)=G2):DoesG P ops o a w (Inv c V2 [] G2 Qf):=by
 refine .of hg ?_
 have:=hs Qf a w (h.enter hV hA hG) det0 (wfB_at hwf rfl)
 unfold DoesG at this
 rw[if_pos (by simp[Region.wanted,hg])]at this
 refine this.mono fun a' w' h'=>?_
 obtain⟨β,h'⟩:=h'
 exact Inv.next kv kg ⟨β,h'.congr (Qca hwf) fun j hj=>by
  have:j=0:=by simpa using hj
  subst this
  rfl⟩ (Qfr hwf) (wfB_ids hwf) hV2 hG2
theorem InvB.addObj {β:Nat→Nat→Prop} {id:Nat} {H:List Bk} {v:Value} {w':World} {B:Nat→Prop} (h:InvB c V [] G Qf β a w) (hb:Below w.heap.size w w') (hB:∀k,B k→w.heap.size≤k) (hH:HpOk B w' H) (hd:d<c.N)
  (hV:(V.all fun y=>(y.slot != d&&y.id != id)&&(y.born.isNone&&y.dead.isNone))=true) (hG:(G.all fun e=>e.slot != d)=true):
  Inv c (Yi id d H::V) [] (⟨none,none,d,Qi v⟩::G) Qf (a.put (some d) v) w':=by
 have hV:∀y,y∈V→(y.slot≠d∧y.id≠id)∧live Qf y=true:=fun y hy=>by
  rw[List.all_eq_true]at hV
  have:=hV y hy
  simp only[Bool.and_eq_true,bne_iff_ne]at this
  refine⟨this.1,?_⟩
  unfold live
  cases hb:y.born with
  |some j=>rw[hb]at this; cases this.2.1
  |none=>cases hd:y.dead with
   |some j=>rw[hd]at this; cases this.2.2
   |none=>rfl
 have hG:∀e,e∈G→e.slot≠d:=fun e he=>by
  rw[List.all_eq_true]at hG
  simpa using hG e he
 let β':Nat→Nat→Prop:=fun s=>if s=id then B else β s
 have hβ:∀y,y∈V→β' y.id=β y.id:=fun y hy=>if_neg (hV y hy).1.2
 have hβx:β' id=B:=if_pos rfl
 have e3:Ext (own c V Qf β) w w':=Ext.of_below hb
 have hown:∀k j,k<w.heap.size→own c (Yi id d H::V) Qf β' k j→own c V Qf β k j:=by
  rintro k j hk (h1|⟨y,hy,h1,h2,h3⟩)
  ·exact .inl h1
  ·rcases List.mem_cons.1 hy with rfl|hy
   ·have h2:β' id k:=h2
    rw[hβx]at h2
    exact absurd (hB k h2) (by omega)
   ·rw[hβ y hy]at h2
    exact .inr ⟨y,hy,h1,h2,h3⟩
 have hmid:Mid (own c (Yi id d H::V) Qf β') w':=by
  rintro k j hk
  rcases Nat.lt_or_ge k w.heap.size with h'|h'
  ·obtain⟨h1,h2⟩:=Yq h k j (hown k j h' hk)
   refine⟨Nat.lt_of_lt_of_le h1 hb.size,fun u hu=>h2 u ?_⟩
   rw[World.cell?_of_block (w:=w) (a:=⟨k,j,none⟩) (hb.block k h')]at hu
   exact hu
  ·rcases hk with h1|⟨y,hy,h1,h2,h3⟩
   ·exact absurd (own_lt h (.inl h1)) (by omega)
   ·rcases List.mem_cons.1 hy with rfl|hy
    ·have h2:β' id k:=h2
     rw[hβx]at h2
     obtain⟨k1,k2⟩:=hH.noU h2
     exact⟨k1,fun u hu=>k2 j u hu⟩
    ·rw[hβ y hy]at h2
     exact absurd (Ze h hy h1 h2) (by omega)
 have sd:∀s,s≠d→sl (a.put (some d) v) s=sl a s:=fun s hs=>Z7 fun e=>hs (Option.some.inj e).symm
 refine⟨β',by rw[Qaq]; exact h.size,by rw[Vw]; exact h.defers,h.below.trans (Lent.of_below hb),h.old_of fun k hk hn=>hb.block k (Nat.lt_of_lt_of_le hk h.below.size),?_,?_,(fun p hp=>by cases hp),?_⟩
 ·intro y hy _
  rcases List.mem_cons.1 hy with rfl|hy
  ·refine(Y5 rfl).2 ⟨fun k hk=>?_,?_⟩
   ·have hk:β' id k:=hk
    rw[hβx]at hk
    obtain⟨k1,k2⟩:=hH.noU hk
    exact⟨.inl (Nat.le_trans h.below.size (hB k hk)),k1,k2⟩
   ·show Box (Kr _ (β' id)) (fun w=>HpOk (β' id) w H) w'
    rw[hβx]
    exact hH.box hmid
  ·have hyl:=(hV y hy).2
   refine(h.var y hy hyl).keep (sd _ (hV y hy).1.1) (hβ y hy) (fun g hg=>hb.block g (Ze h hy hyl hg)) hb.size (fun F hF=>Qad e3 hown hF) (fun F hF=>?_) rfl
   refine Qad (M:=Kr (own c V Qf β) (β y.id)) (Ext.of_below hb) ?_ hF
   rintro k j hk ⟨h1,h2⟩
   exact⟨hown k j hk h1,h2⟩
 ·intro y y' g hy hy' _ _ hne
  rcases List.mem_cons.1 hy with rfl|hy<;>rcases List.mem_cons.1 hy' with rfl|hy'
  ·exact absurd rfl hne
  ·intro h1 h2
   have h1:β' id g:=h1
   rw[hβx]at h1
   rw[hβ y' hy']at h2
   exact absurd (Ze h hy' (hV y' hy').2 h2) (by have:=hB g h1; omega)
  ·intro h1 h2
   have h2:β' id g:=h2
   rw[hβx]at h2
   rw[hβ y hy]at h1
   exact absurd (Ze h hy (hV y hy).2 h1) (by have:=hB g h2; omega)
  ·rw[hβ y hy,hβ y' hy']
   exact h.apart y y' g hy hy' (hV y hy).2 (hV y' hy').2 hne
 ·intro e he _ _
  rcases List.mem_cons.1 he with rfl|he
  ·refine fun w'' _=>?_
   show sl (a.put (some d) v) d=v
   exact Wn (by rw[h.size]; exact hd)
  ·have:=h.ent e he ?_ ?_
   ·show Box _ (fun w=>e.p w (sl (a.put (some d) v) e.slot)) w'
    rw[sd _ (hG e he)]
    exact Qad e3 hown this
   ·rename_i ho hf
    exact ho
   ·rename_i ho hf
    exact hf
theorem step_callO {Λ:Type} {C:Λ→Prop} {hd:Λ→Value} {H:Λ→List Bk} {id:Nat} {f:FuncId} {args:Array Operand} {ts:Array TypeId} {ops:Array Oper} (hf:Y0 P f) (h:Inv c V [] G Qf a w)
  (hc:∀β,InvB c V [] G Qf β a w→Calls P f (args.map a.eval) w (RetO C hd H w)) (hd':decide (d<c.N)=true) (hV:(V.all fun y=>(y.slot != d&&y.id != id)&&(y.born.isNone&&y.dead.isNone))=true) (hG:(G.all fun e=>e.slot != d)=true):
  DoesG P ops ⟨some d,.call ⟨.value (.func f),args,ts⟩,ty,pos,aft,none⟩ a w (fun a w=>∃l,C l∧Inv c (Yi id d (H l)::V) [] (⟨none,none,d,Qi (hd l)⟩::G) Qf a w):=by
 obtain⟨β,hI⟩:=h
 refine .of rfl (Qdi hf ((hc β hI).mono ?_))
 rintro e w' ⟨l,B,h1,rfl,h2,h3,h4⟩
 exact⟨_,rfl,l,h1,hI.addObj h2 h3 h4 (of_decide_eq_true hd') hV hG⟩
theorem InvB.lentObj {β:Nat→Nat→Prop} {id s n0:Nat} {H H':List Bk} {p:Qg} {v:Value} {w':World} (h:InvB c V [] G Qf β a w) (hk:V[n0]?=some (Yi id s H)) (hle:Lent (β id) w w') (hH:HpOk (β id) w' H') (hp:Zg p) (hv:p w' v) (hd:d<c.N)
  (hV:(V.all fun y=>(y.slot != d&&(y.id != id||y.slot==s))&&(y.born.isNone&&y.dead.isNone))=true) (hu:(V.filter fun y=>y.id==id).length=1) (hG:(G.all fun e=>e.slot != d)=true):
  Inv c (V.set n0 (Yi id s H')) [] (⟨none,none,d,p⟩::G) Qf (a.put (some d) v) w':=by
 have hV:∀y,y∈V→y.slot≠d∧live Qf y=true:=fun y hy=>by
  rw[List.all_eq_true]at hV
  have:=hV y hy
  simp only[Bool.and_eq_true,bne_iff_ne]at this
  refine⟨this.1.1,?_⟩
  unfold live
  cases hb:y.born with
  |some j=>rw[hb]at this; cases this.2.1
  |none=>cases hd:y.dead with
   |some j=>rw[hd]at this; cases this.2.2
   |none=>rfl
 have hG:∀e,e∈G→e.slot≠d:=fun e he=>by
  rw[List.all_eq_true]at hG
  simpa using hG e he
 have hx:=List.mem_of_getElem? hk
 have hkl:n0<V.length:=by
  rcases Nat.lt_or_ge n0 V.length with h'|h'
  ·exact h'
  ·rw[List.getElem?_eq_none h']at hk; cases hk
 have one:∀y,y∈V→y.id=id→y=Yi id s H:=fun y hy e=>Jn hu hy hx (by simpa using e) (by simp)
 have hxl:live Qf (Yi id s H)=true:=rfl
 have hsub:∀y,y∈V.set n0 (Yi id s H')→y=Yi id s H'∨(y∈V∧y.id≠id):=fun y hy=>by
  obtain⟨j,hj⟩:=List.mem_iff_getElem?.1 hy
  by_cases hjk:j=n0
  ·subst hjk
   rw[List.getElem?_set_self hkl]at hj
   exact .inl (Option.some.inj hj).symm
  ·rw[List.getElem?_set_ne (Ne.symm hjk)]at hj
   have hyV:=List.mem_of_getElem? hj
   by_cases hid:y.id=id
   ·-- it would be the object itself, at another place
    exfalso
    have e:=one y hyV hid
    subst e
    have h2:((V.filter fun y=>y.id==id).length)≥2:=by
     have hsl:[Yi id s H,Yi id s H].Sublist V:=by
      rcases Nat.lt_or_ge j n0 with hlt|hge
      ·exact Qc3 hj hk hlt
      ·exact Qc3 hk hj (by omega)
     have:=(hsl.filter fun y=>y.id==id).length_le
     simpa using this
    omega
   ·exact .inr ⟨hyV,hid⟩
 have hB:∀k,β id k→mine c k∧k<w.heap.size∧∀o v,w.cell? ⟨k,o,none⟩=some v→Yw v:=fun k hk'=>Qeg h hx hxl hk'
 have ob:∀k j,β id k→own c V Qf β k j:=fun k j hk'=>.inr ⟨_,hx,hxl,hk',Nat.zero_le _⟩
 have e3:Ext (own c V Qf β) w w':=Ext.of_lent hle fun k j _ hk'=>ob k j hk'
 have hown:∀k j,own c (V.set n0 (Yi id s H')) Qf β k j→own c V Qf β k j:=by
  rintro k' j (h1|⟨y,hy,h1,h2,h3⟩)
  ·exact .inl h1
  ·rcases hsub y hy with rfl|⟨hyV,_⟩
   ·exact ob k' j h2
   ·exact .inr ⟨y,hyV,h1,h2,h3⟩
 have hmid:Mid (own c V Qf β) w':=by
  intro k j hk'
  obtain⟨h1,h2⟩:=Yq h k j hk'
  refine⟨Nat.lt_of_lt_of_le h1 hle.size,fun u hu'=>?_⟩
  by_cases hb:β id k
  ·exact(hH.noU hb).2 j u hu'
  ·rw[World.cell?_of_block (w:=w) (a:=⟨k,j,none⟩) (hle.block k h1 hb)]at hu'
   exact h2 u hu'
 have sd:∀s,s≠d→sl (a.put (some d) v) s=sl a s:=fun s hs=>Z7 fun e=>hs (Option.some.inj e).symm
 refine⟨β,by rw[Qaq]; exact h.size,by rw[Vw]; exact h.defers,⟨hle.os.trans h.below.os,hle.tape.trans h.below.tape,hle.output.trans h.below.output,Nat.le_trans h.below.size hle.size,fun k hk' hn=>?_⟩,h.old_of fun k hk' hn=>?_,?_,?_,(fun p hp=>by cases hp),?_⟩
 ·rw[hle.block k (Nat.lt_of_lt_of_le hk' h.below.size) fun hb=>(hB k hb).1.elim (fun h3=>by omega) (fun h3=>hn h3)]
  exact h.below.block k hk' hn
 ·exact hle.block k (Nat.lt_of_lt_of_le hk' h.below.size) fun hb=>(hB k hb).1.elim (fun h3=>by omega) (fun h3=>hn h3)
 ·intro y hy _
  rcases hsub y hy with rfl|⟨hyV,hid⟩
  ·refine(Y5 rfl).2 ⟨fun k hk'=>⟨(hB k hk').1,(hH.noU hk').1,fun o v hv=>(hH.noU hk').2 o v hv⟩,?_⟩
   show Box (Kr _ (β id)) (fun w=>HpOk (β id) w H') w'
   exact(hH.box hmid).sub fun k j _ hk'=>⟨hown k j hk'.1,hk'.2⟩
  ·have hny:∀g,β y.id g→¬β id g:=fun g hg=>h.apart y _ g hyV hx (hV y hyV).2 hxl hid hg
   refine(h.var y hyV (hV y hyV).2).keep (sd _ (hV y hyV).1) rfl (fun g hg=>hle.block g (Ze h hyV (hV y hyV).2 hg) (hny g hg)) hle.size (fun F hF=>(hF.ext e3).sub fun k j _ hk'=>hown k j hk') (fun F hF=>?_) rfl
   have e4:Ext (Kr (own c V Qf β) (β y.id)) w w':=Ext.of_lent hle fun k j _ hk'=>⟨ob k j hk',fun hy'=>hny k hy' hk'⟩
   exact(hF.ext e4).sub fun k j _ hk'=>⟨hown k j hk'.1,hk'.2⟩
 ·intro y y' g hy hy' _ _ hne
  rcases hsub y hy with rfl|⟨hyV,hid⟩<;>rcases hsub y' hy' with rfl|⟨hyV',hid'⟩
  ·exact absurd rfl hne
  ·exact h.apart (Yi id s H) y' g hx hyV' hxl (hV y' hyV').2 hne
  ·exact h.apart y (Yi id s H) g hyV hx (hV y hyV).2 hxl hne
  ·exact h.apart y y' g hyV hyV' (hV y hyV).2 (hV y' hyV').2 hne
 ·intro e he ho hf
  rcases List.mem_cons.1 he with rfl|he
  ·show Box _ (fun w=>p w (sl (a.put (some d) v) d)) w'
   rw[Wn (by rw[h.size]; exact hd)]
   exact(hp _ w' v hmid hv).sub fun k j _ hk'=>hown k j hk'
  ·show Box _ (fun w=>e.p w (sl (a.put (some d) v) e.slot)) w'
   rw[sd _ (hG e he)]
   exact((h.ent e he ho hf).ext e3).sub fun k j _ hk'=>hown k j hk'
end
end Wx

namespace Wx
open Go Go.RowKit

theorem Qhg {M:Nat→Nat→Prop} {B:Nat→Prop} {w:World} (h:Mid M w):Mid (Kr M B) w:=fun k o hk=>h k o hk.1
section
variable {P:Program} {Q:Exit→Act→World→Prop} {c:Cfg} {V:List Vr} {A:List Al} {G:List Ent} {a:Act} {w:World} {o:Oper}
variable {d:Nat} {x y z u:Operand} {ty:TypeId} {pos:String} {aft:Array Edge}
theorem InvB.obj {β:Nat→Nat→Prop} {id s n0:Nat} {H:List Bk} (h:InvB c V [] G Qf β a w) (hk:V[n0]?=some (Yi id s H)):HpOk (β id) w H∧(∀k,β id k→mine c k)∧∀k j,β id k→own c V Qf β k j:=by
 have hx:=List.mem_of_getElem? hk
 have hO:=(Y5 rfl).1 (h.var _ hx rfl)
 exact⟨hO.2.out,fun k hk=>(hO.1 k hk).1,fun k j hk=>.inr ⟨_,hx,rfl,hk,Nat.zero_le _⟩⟩
theorem Qe2 {β:Nat→Nat→Prop} {id s n0:Nat} {H:List Bk} (h:InvB c V [] G Qf β a w) (hk:V[n0]?=some (Yi id s H)) {F:World→Prop} (hF:Box (own c V Qf β) F w):Box (plus (Kr (own c V Qf β) (β id)) (β id)) F w:=
 hF.sub fun k j _ h'=>h'.elim (fun h'=>h'.1) fun h'=>(h.obj hk).2.2 k j h'
theorem step_callL {id s n0:Nat} {H H':List Bk} {p:Qg} {f:FuncId} {args:Array Operand} {ts:Array TypeId} {ops:Array Oper} (hf:Y0 P f) (h:Inv c V [] G Qf a w) (hk:V[n0]?=some (Yi id s H)) (hp:Zg p)
  (hc:∀β,InvB c V [] G Qf β a w→Calls P f (args.map a.eval) w (RetL (Kr (own c V Qf β) (β id)) (β id) p H' w)) (hd':decide (d<c.N)=true)
  (hV:(V.all fun y=>(y.slot != d&&(y.id != id||y.slot==s))&&(y.born.isNone&&y.dead.isNone))=true) (hu:(V.filter fun y=>y.id==id).length=1) (hG:(G.all fun e=>e.slot != d)=true):
  DoesG P ops ⟨some d,.call ⟨.value (.func f),args,ts⟩,ty,pos,aft,none⟩ a w (Inv c (V.set n0 (Yi id s H')) [] (⟨none,none,d,p⟩::G) Qf):=by
 obtain⟨β,hI⟩:=h
 refine .of rfl (Qdi hf ((hc β hI).mono ?_))
 rintro e w' ⟨v,rfl,h1,h2,h3⟩
 exact⟨v,rfl,hI.lentObj hk h2 h3 hp h1.out (of_decide_eq_true hd') hV hu hG⟩
theorem step_callL2 {id s n0:Nat} {H H':List Bk} {p p1 p2:Qg} {f:FuncId} {ts:Array TypeId} {ops:Array Oper} (hf:Y0 P f) (h:Inv c V [] G Qf a w) (hk:V[n0]?=some (Yi id s H)) (hp:Zg p) (h1:Has [0] G 0 x p1) (h2:Has [0] G 0 y p2)
  (hc:∀M B w v1 v2,Mid M w→(∀k,B k→∀o,¬M k o)→HpOk B w H→Box (plus M B) (fun w=>p1 w v1) w→Box (plus M B) (fun w=>p2 w v2) w→Calls P f #[v1,v2] w (RetL M B p H' w)) (hd':decide (d<c.N)=true)
  (hV:(V.all fun y=>(y.slot != d&&(y.id != id||y.slot==s))&&(y.born.isNone&&y.dead.isNone))=true) (hu:(V.filter fun y=>y.id==id).length=1) (hG:(G.all fun e=>e.slot != d)=true):
  DoesG P ops ⟨some d,.call ⟨.value (.func f),#[x,y],ts⟩,ty,pos,aft,none⟩ a w (Inv c (V.set n0 (Yi id s H')) [] (⟨none,none,d,p⟩::G) Qf):=
 step_callL hf h hk hp (fun β hI=>by
  rw[show(#[x,y]:Array Operand).map a.eval=#[a.eval x,a.eval y] by simp]
  exact hc _ _ w _ _ (Qhg (Yq hI)) (fun k hk o ho=>ho.2 hk) (hI.obj hk).1 (Qe2 hI hk (h1.spec hI det0)) (Qe2 hI hk (h2.spec hI det0))) hd' hV hu hG
theorem step_callL3 {id s n0:Nat} {H H':List Bk} {p p1 p2 p3:Qg} {f:FuncId} {ts:Array TypeId} {ops:Array Oper} (hf:Y0 P f) (h:Inv c V [] G Qf a w) (hk:V[n0]?=some (Yi id s H)) (hp:Zg p) (h1:Has [0] G 0 x p1) (h2:Has [0] G 0 y p2) (h3:Has [0] G 0 z p3)
  (hc:∀M B w v1 v2 v3,Mid M w→(∀k,B k→∀o,¬M k o)→HpOk B w H→Box (plus M B) (fun w=>p1 w v1) w→Box (plus M B) (fun w=>p2 w v2) w→Box (plus M B) (fun w=>p3 w v3) w→Calls P f #[v1,v2,v3] w (RetL M B p H' w)) (hd':decide (d<c.N)=true)
  (hV:(V.all fun y=>(y.slot != d&&(y.id != id||y.slot==s))&&(y.born.isNone&&y.dead.isNone))=true) (hu:(V.filter fun y=>y.id==id).length=1) (hG:(G.all fun e=>e.slot != d)=true):
  DoesG P ops ⟨some d,.call ⟨.value (.func f),#[x,y,z],ts⟩,ty,pos,aft,none⟩ a w (Inv c (V.set n0 (Yi id s H')) [] (⟨none,none,d,p⟩::G) Qf):=
 step_callL hf h hk hp (fun β hI=>by
  rw[show(#[x,y,z]:Array Operand).map a.eval=#[a.eval x,a.eval y,a.eval z] by simp]
  exact hc _ _ w _ _ _ (Qhg (Yq hI)) (fun k hk o ho=>ho.2 hk) (hI.obj hk).1 (Qe2 hI hk (h1.spec hI det0)) (Qe2 hI hk (h2.spec hI det0)) (Qe2 hI hk (h3.spec hI det0))) hd' hV hu hG
theorem inv_startL {N id s:Nat} {M:Nat→Nat→Prop} {B:Nat→Prop} {H:List Bk} (hM:Mid M w) (hBM:∀k,B k→∀o,¬M k o) (hH:HpOk B w H) (hN:a.tmps.size=N) (hd:a.defers=[]) (hG:EntsOk (plus M B) a w G):Inv ⟨N,w,M,B⟩ [Yi id s H] [] G Qf a w:=by
 have eo:∀k o,own ⟨N,w,M,B⟩ [Yi id s H] Qf (fun _=>B) k o→plus M B k o:=by
  rintro k o (h|⟨x,hx,_,h,_⟩)
  ·exact .inl h
  ·exact .inr h
 have hmid:Mid (own ⟨N,w,M,B⟩ [Yi id s H] Qf (fun _=>B)) w:=fun k o hk=>(eo k o hk).elim (fun h=>hM k o h) fun h=>⟨(hH.noU h).1,fun v hv=>(hH.noU h).2 o v hv⟩
 refine⟨fun _=>B,hN,hd,Lent.refl _ _,(fun k o h=>⟨⟨(hM k o h).1,fun hb=>hBM k hb o h⟩,(hM k o h).2⟩),(fun x hx _=>?_),(fun x y g hx hy _ _ hne=>?_),(fun p hp=>by cases hp),fun e he _ _=>(hG.get e he).2.sub fun k o _ h=>eo k o h⟩
 ·rcases List.mem_singleton.1 hx with rfl
  exact(Y5 rfl).2 ⟨fun k hk=>⟨.inr hk,(hH.noU hk).1,fun o v hv=>(hH.noU hk).2 o v hv⟩,hH.box hmid⟩
 ·rcases List.mem_singleton.1 hx with rfl
  rcases List.mem_singleton.1 hy with rfl
  exact absurd rfl hne
theorem Qg7 {fn:Func} {f:FuncId} {C:Code} {vs:List Value} {N id s:Nat} {M:Nat→Nat→Prop} {B:Nat→Prop} {H H':List Bk} {p:Qg} (hf:P.funcs[f]?=some fn) (hb:fn.body=some C) (hN:fn.ntmps=N) (hlen:decide (vs.length≤N)=true)
  (hM:Mid M w) (hBM:∀k,B k→∀o,¬M k o) (hH:HpOk B w H) (hG:EntsA (plus M B) w vs G)
  (h:∀a,Inv ⟨N,w,M,B⟩ [Yi id s H] [] G Qf a w→C.wp P (bodyPost P fn (RetL M B p H' w)) a w):Calls P f vs.toArray w (RetL M B p H' w):=
 calls_of_wp hf hb (h _ (inv_startL hM hBM hH (by have:=of_decide_eq_true hlen; simp[hN]; omega) rfl hG.ok))
variable {fn:Func}
theorem finL {N id s n0:Nat} {w0:World} {M:Nat→Nat→Prop} {B:Nat→Prop} {H H0:List Bk} {β:Nat→Nat→Prop} (hI:InvB ⟨N,w0,M,B⟩ V [] G Qf β a w) (hH0:HpOk B w0 H0) (hk:V[n0]?=some (Yi id s H)) (hb:H.map Bk.b=H0.map Bk.b):HpOk B w H∧Lent B w0 w:=by
 refine⟨?_,hI.below⟩
 obtain⟨h1,h2,h3⟩:=(hI.obj hk).1
 refine⟨fun k=>(hH0.1 k).trans ?_,h2,h3⟩
 have e:∀L:List Bk,(∃e,e∈L∧e.b=k)↔k∈L.map Bk.b:=fun L=>by rw[List.mem_map]
 rw[e,e,hb]
theorem finL0 {N id s n0:Nat} {w0:World} {M:Nat→Nat→Prop} {B:Nat→Prop} {H H0:List Bk} (hI:Inv ⟨N,w0,M,B⟩ V [] G Qf a w) (hr:fn.results=#[]) (hH0:HpOk B w0 H0) (hk:V[n0]?=some (Yi id s H)) (hb:H.map Bk.b=H0.map Bk.b):bodyPost P fn (RetL M B (Qi (.tuple #[])) H w0) .ret a w:=by
 obtain⟨β,hI⟩:=hI
 obtain⟨h1,h2⟩:=finL hI hH0 hk hb
 exact Qax hI (results_none hr _ _ _) ⟨_,rfl,fun _ _=>rfl,h2,h1⟩
theorem finL2 {N id s n0:Nat} {w0:World} {M:Nat→Nat→Prop} {B:Nat→Prop} {H H0:List Bk} {r1 r2:ResultVar} {p q:Qg} (hI:Inv ⟨N,w0,M,B⟩ V [] G Qf a w) (hr:fn.results=#[r1,r2]) (hH0:HpOk B w0 H0) (hk:V[n0]?=some (Yi id s H)) (hb:H.map Bk.b=H0.map Bk.b) (h1:ResOk P V G r1 p) (h2:ResOk P V G r2 q):bodyPost P fn (RetL M B (Xr p q) H w0) .ret a w:=by
 obtain⟨β,hI⟩:=hI
 obtain⟨k1,k2⟩:=finL hI hH0 hk hb
 obtain⟨v1,j1,b1⟩:=h1.run hI
 obtain⟨v2,j2,b2⟩:=h2.run hI
 refine Qax hI (v:=.tuple #[v1,v2]) ?_ ⟨_,rfl,fun w' he=>⟨v1,v2,rfl,Qd6 b1 w' he,Qd6 b2 w' he⟩,k2,k1⟩
 rw[Vx,hr]
 simp[j1,j2,Sem.run_bind]
theorem finO1 {Λ:Type} {C:Λ→Prop} {hd:Λ→Value} {Hl:Λ→List Bk} {N id s n0:Nat} {w0:World} {M:Nat→Nat→Prop} {r:ResultVar} (l:Λ) (hC:C l) (hI:Inv ⟨N,w0,M,fun _=>False⟩ V [] G Qf a w) (hr:fn.results=#[r]) (hk:V[n0]?=some (Yi id s (Hl l))) (h:ResOk P V G r (Qi (hd l))):bodyPost P fn (RetO C hd Hl w0) .ret a w:=by
 obtain⟨β,hI⟩:=hI
 obtain⟨v,k1,k2⟩:=h.run hI
 have e:v=hd l:=k2.out
 obtain⟨h1,h2,_⟩:=hI.obj hk
 refine Qax hI (v:=v) ?_ ⟨l,β id,hC,by rw[e],hI.below.below (fun _ h=>h),fun k hk'=>(h2 k hk').elim (fun h=>h) (fun h=>h.elim),h1⟩
 rw[Vx,hr]
 simp[k1]
theorem obj_rest {N id s n0:Nat} {w0:World} {M:Nat→Nat→Prop} {H:List Bk} {F:World→Prop} {β:Nat→Nat→Prop} (hI:InvB ⟨N,w0,M,fun _=>False⟩ V [] G Qf β a w) (hk:V[n0]?=some (Yi id s H)) (hF:∀B w,HpOk B w H→F w):Box M F w:=by
 obtain⟨h1,h2,h3⟩:=hI.obj hk
 refine((h1.box (Yq hI)).imp fun w h=>hF _ w h).sub fun k j hk' hm=>⟨.inl hm,fun hb=>?_⟩
 have:=(hI.old k j hm).1.1
 exact(h2 k hb).elim (fun h=>by have h:w0.heap.size≤k:=h; have:k<w0.heap.size:=this; omega) (fun h=>h.elim)
end
end Wx
