import Derived.Test.YtpiniclogfefjaaCSylvesterSemAppend
import Derived.Test.YtpiniclogfefjaaJSylvester21
namespace Wx
open Go Go.RowKit

def Jg (M:Nat→Nat→Prop) (B:Nat→Prop) (k o:Nat):Prop:=M k o∨B k
def RetO {Λ:Type} (C:Λ→Prop) (hd:Λ→Value) (H:Λ→List Bk) (w:World) (e:Ending) (w':World):Prop:=∃(l:Λ) (B:Nat→Prop),C l∧e=.returned (hd l)∧Below w.heap.size w w'∧(∀k,B k→w.heap.size≤k)∧HpOk B w' (H l)
def RetL (M:Nat→Nat→Prop) (B:Nat→Prop) (p:Qj) (H:List Bk) (w:World) (e:Ending) (w':World):Prop:=∃v,e=.returned v∧Box M (fun w=>p w v) w'∧Lent B w w'∧HpOk B w' H
abbrev Xu (id s:Nat) (H:List Bk):Vr:=⟨id,s,none,none,.obj,0,0,false,Zj H,[]⟩
theorem det0:Det [0] 0 Qf:=⟨rfl,fun j h=>by simp at h,fun _ _=>rfl⟩
theorem Qac {α:Type} {l:List α} {x y:α} {i j:Nat} (hi:l[i]?=some x) (hj:l[j]?=some y) (h:i<j):[x,y].Sublist l:=by
 induction l generalizing i j with
 |nil=>simp at hi
 |cons z l ih=>
  cases j with
  |zero=>omega
  |succ j=>
   simp at hj
   cases i with
   |zero=>
    simp at hi
    subst hi
    exact(List.singleton_sublist.2 (List.mem_of_getElem? hj)).cons_cons _
   |succ i=>
    simp at hi
    exact(ih hi hj (by omega)).cons _
section
variable {P:Program} {Q:Exit→Act→World→Prop} {c:Cfg} {V:List Vr} {A:List Al} {G:List Ent} {a:Act} {w:World} {o:Oper}
variable {d:Nat} {x y z:Operand} {ty:TypeId} {pos:String} {aft:Array Edge}
theorem Does.mono {K K':Act→World→Prop} (h:Does P o a w K) (hK:∀a w,K a w→K' a w):Does P o a w K':=by
 unfold Does at *
 generalize (execOp a.eval o).run P w=r at *
 match r,h with
 |.ok (.value v) w',h=>exact hK _ _ h
 |.ok .skip w',h=>exact hK _ _ h
 |.ok (.enter f args) w',h=>exact h.mono fun e w'' ⟨v,h1,h2⟩=>⟨v,h1,hK _ _ h2⟩
theorem DoesG.of {ops:Array Oper} {K:Act→World→Prop} (hg:o.guard=none) (h:Does P o a w K):DoesG P ops o a w K:=by
 unfold DoesG
 rw[if_pos (by simp[Region.wanted,hg])]
 exact h
theorem single {ops:Array Oper} {V1 V2:List Vr} {A1:List Al} {G1 G2:List Ent} (h:Inv c V A G Qf a w) (hg:o.guard=none) (hV:V0 V1=V) (hA:Qax A1=A) (hG:Vz G1=G) (hwf:Wy c.N [o] V1 A1 G1=true)
  (hs:Xf P #[o] [0] c V1 A1 G1 0 o) (kv kg:List Nat) (hV2:Kz kv (keptV V1)=V2) (hG2:Kz kg ((G1.filter fun e=>e.till.isNone).map Qag)=G2):DoesG P ops o a w (Inv c V2 [] G2 Qf):=by
 refine .of hg ?_
 have:=hs Qf a w (h.enter hV hA hG) det0 (wfB_at hwf rfl)
 unfold DoesG at this
 rw[if_pos (by simp[Region.wanted,hg])]at this
 refine this.mono fun a' w' h'=>?_
 obtain⟨β,h'⟩:=h'
 exact Inv.next kv kg ⟨β,h'.congr (Ul hwf) fun j hj=>by
  have:j=0:=by simpa using hj
  subst this
  rfl⟩ (Qce hwf) (wfB_ids hwf) hV2 hG2
theorem InvB.addObj {β:Nat→Nat→Prop} {id:Nat} {H:List Bk} {v:Value} {w':World} {B:Nat→Prop} (h:InvB c V [] G Qf β a w) (hb:Below w.heap.size w w') (hB:∀k,B k→w.heap.size≤k) (hH:HpOk B w' H) (hd:d<c.N)
  (hV:(V.all fun y=>(y.slot != d&&y.id != id)&&(y.born.isNone&&y.dead.isNone))=true) (hG:(G.all fun e=>e.slot != d)=true):
  Inv c (Xu id d H::V) [] (⟨none,none,d,Qe v⟩::G) Qf (a.put (some d) v) w':=by
 have hV:∀y,y∈V→(y.slot≠d∧y.id≠id)∧live Qf y=true:=fun y hy=>by
  rw[List.all_eq_true]at hV
  have:=hV y hy
  simp only[Bool.and_eq_true,bne_iff_ne]at this
  refine⟨this.1,?_⟩
  unfold live
  cases hb:y.born with
  |some j=>rw[hb]at this; cases this.2.1
  |none=>cases hd:y.dead with
   |some j=>rw[hd]at this; cases this.2.2
   |none=>rfl
 have hG:∀e,e∈G→e.slot≠d:=fun e he=>by
  rw[List.all_eq_true]at hG
  simpa using hG e he
 let β':Nat→Nat→Prop:=fun s=>if s=id then B else β s
 have hβ:∀y,y∈V→β' y.id=β y.id:=fun y hy=>if_neg (hV y hy).1.2
 have hβx:β' id=B:=if_pos rfl
 have e3:Ext (own c V Qf β) w w':=Ext.of_below hb
 have hown:∀k j,k<w.heap.size→own c (Xu id d H::V) Qf β' k j→own c V Qf β k j:=by
  rintro k j hk (h1|⟨y,hy,h1,h2,h3⟩)
  ·exact .inl h1
  ·rcases List.mem_cons.1 hy with rfl|hy
   ·have h2:β' id k:=h2
    rw[hβx]at h2
    exact absurd (hB k h2) (by omega)
   ·rw[hβ y hy]at h2
    exact .inr ⟨y,hy,h1,h2,h3⟩
 have hmid:Mid (own c (Xu id d H::V) Qf β') w':=by
  rintro k j hk
  rcases Nat.lt_or_ge k w.heap.size with h'|h'
  ·obtain⟨h1,h2⟩:=X8 h k j (hown k j h' hk)
   refine⟨Nat.lt_of_lt_of_le h1 hb.size,fun u hu=>h2 u ?_⟩
   rw[World.cell?_of_block (w:=w) (a:=⟨k,j,none⟩) (hb.block k h')]at hu
   exact hu
  ·rcases hk with h1|⟨y,hy,h1,h2,h3⟩
   ·exact absurd (own_lt h (.inl h1)) (by omega)
   ·rcases List.mem_cons.1 hy with rfl|hy
    ·have h2:β' id k:=h2
     rw[hβx]at h2
     obtain⟨k1,k2⟩:=hH.noU h2
     exact⟨k1,fun u hu=>k2 j u hu⟩
    ·rw[hβ y hy]at h2
     exact absurd (Y5 h hy h1 h2) (by omega)
 have sd:∀s,s≠d→sl (a.put (some d) v) s=sl a s:=fun s hs=>Zh fun e=>hs (Option.some.inj e).symm
 refine⟨β',by rw[Vb]; exact h.size,by rw[Ks]; exact h.defers,h.below.trans (Lent.of_below hb),h.old_of fun k hk hn=>hb.block k (Nat.lt_of_lt_of_le hk h.below.size),?_,?_,(fun p hp=>by cases hp),?_⟩
 ·intro y hy _
  rcases List.mem_cons.1 hy with rfl|hy
  ·refine(Yk rfl).2 ⟨fun k hk=>?_,?_⟩
   ·have hk:β' id k:=hk
    rw[hβx]at hk
    obtain⟨k1,k2⟩:=hH.noU hk
    exact⟨.inl (Nat.le_trans h.below.size (hB k hk)),k1,k2⟩
   ·show Box (Jo _ (β' id)) (fun w=>HpOk (β' id) w H) w'
    rw[hβx]
    exact hH.box hmid
  ·have hyl:=(hV y hy).2
   refine(h.var y hy hyl).keep (sd _ (hV y hy).1.1) (hβ y hy) (fun g hg=>hb.block g (Y5 h hy hyl hg)) hb.size (fun F hF=>W0 e3 hown hF) (fun F hF=>?_) rfl
   refine W0 (M:=Jo (own c V Qf β) (β y.id)) (Ext.of_below hb) ?_ hF
   rintro k j hk ⟨h1,h2⟩
   exact⟨hown k j hk h1,h2⟩
 ·intro y y' g hy hy' _ _ hne
  rcases List.mem_cons.1 hy with rfl|hy<;>rcases List.mem_cons.1 hy' with rfl|hy'
  ·exact absurd rfl hne
  ·intro h1 h2
   have h1:β' id g:=h1
   rw[hβx]at h1
   rw[hβ y' hy']at h2
   exact absurd (Y5 h hy' (hV y' hy').2 h2) (by have:=hB g h1; omega)
  ·intro h1 h2
   have h2:β' id g:=h2
   rw[hβx]at h2
   rw[hβ y hy]at h1
   exact absurd (Y5 h hy (hV y hy).2 h1) (by have:=hB g h2; omega)
  ·rw[hβ y hy,hβ y' hy']
   exact h.apart y y' g hy hy' (hV y hy).2 (hV y' hy').2 hne
 ·intro e he _ _
  rcases List.mem_cons.1 he with rfl|he
  ·refine fun w'' _=>?_
   show sl (a.put (some d) v) d=v
   exact J6 (by rw[h.size]; exact hd)
  ·have:=h.ent e he ?_ ?_
   ·show Box _ (fun w=>e.p w (sl (a.put (some d) v) e.slot)) w'
    rw[sd _ (hG e he)]
    exact W0 e3 hown this
   ·rename_i ho hf
    exact ho
   ·rename_i ho hf
    exact hf
theorem step_callO {Λ:Type} {C:Λ→Prop} {hd:Λ→Value} {H:Λ→List Bk} {id:Nat} {f:FuncId} {args:Array Operand} {ts:Array TypeId} {ops:Array Oper} (hf:Y1 P f) (h:Inv c V [] G Qf a w)
  (hc:∀β,InvB c V [] G Qf β a w→Calls P f (args.map a.eval) w (RetO C hd H w)) (hd':decide (d<c.N)=true) (hV:(V.all fun y=>(y.slot != d&&y.id != id)&&(y.born.isNone&&y.dead.isNone))=true) (hG:(G.all fun e=>e.slot != d)=true):
  DoesG P ops ⟨some d,.call ⟨.value (.func f),args,ts⟩,ty,pos,aft,none⟩ a w (fun a w=>∃l,C l∧Inv c (Xu id d (H l)::V) [] (⟨none,none,d,Qe (hd l)⟩::G) Qf a w):=by
 obtain⟨β,hI⟩:=h
 refine .of rfl (Qas hf ((hc β hI).mono ?_))
 rintro e w' ⟨l,B,h1,rfl,h2,h3,h4⟩
 exact⟨_,rfl,l,h1,hI.addObj h2 h3 h4 (of_decide_eq_true hd') hV hG⟩
theorem InvB.lentObj {β:Nat→Nat→Prop} {id s n0:Nat} {H H':List Bk} {p:Qj} {v:Value} {w':World} (h:InvB c V [] G Qf β a w) (hk:V[n0]?=some (Xu id s H)) (hle:Lent (β id) w w') (hH:HpOk (β id) w' H') (hp:Zs p) (hv:p w' v) (hd:d<c.N)
  (hV:(V.all fun y=>(y.slot != d&&(y.id != id||y.slot==s))&&(y.born.isNone&&y.dead.isNone))=true) (hu:(V.filter fun y=>y.id==id).length=1) (hG:(G.all fun e=>e.slot != d)=true):
  Inv c (V.set n0 (Xu id s H')) [] (⟨none,none,d,p⟩::G) Qf (a.put (some d) v) w':=by
 have hV:∀y,y∈V→y.slot≠d∧live Qf y=true:=fun y hy=>by
  rw[List.all_eq_true]at hV
  have:=hV y hy
  simp only[Bool.and_eq_true,bne_iff_ne]at this
  refine⟨this.1.1,?_⟩
  unfold live
  cases hb:y.born with
  |some j=>rw[hb]at this; cases this.2.1
  |none=>cases hd:y.dead with
   |some j=>rw[hd]at this; cases this.2.2
   |none=>rfl
 have hG:∀e,e∈G→e.slot≠d:=fun e he=>by
  rw[List.all_eq_true]at hG
  simpa using hG e he
 have hx:=List.mem_of_getElem? hk
 have hkl:n0<V.length:=by
  rcases Nat.lt_or_ge n0 V.length with h'|h'
  ·exact h'
  ·rw[List.getElem?_eq_none h']at hk; cases hk
 have one:∀y,y∈V→y.id=id→y=Xu id s H:=fun y hy e=>Zr hu hy hx (by simpa using e) (by simp)
 have hxl:live Qf (Xu id s H)=true:=rfl
 have hsub:∀y,y∈V.set n0 (Xu id s H')→y=Xu id s H'∨(y∈V∧y.id≠id):=fun y hy=>by
  obtain⟨j,hj⟩:=List.mem_iff_getElem?.1 hy
  by_cases hjk:j=n0
  ·subst hjk
   rw[List.getElem?_set_self hkl]at hj
   exact .inl (Option.some.inj hj).symm
  ·rw[List.getElem?_set_ne (Ne.symm hjk)]at hj
   have hyV:=List.mem_of_getElem? hj
   by_cases hid:y.id=id
   ·-- it would be the object itself, at another place
    exfalso
    have e:=one y hyV hid
    subst e
    have h2:((V.filter fun y=>y.id==id).length)≥2:=by
     have hsl:[Xu id s H,Xu id s H].Sublist V:=by
      rcases Nat.lt_or_ge j n0 with hlt|hge
      ·exact Qac hj hk hlt
      ·exact Qac hk hj (by omega)
     have:=(hsl.filter fun y=>y.id==id).length_le
     simpa using this
    omega
   ·exact .inr ⟨hyV,hid⟩
 have hB:∀k,β id k→mine c k∧k<w.heap.size∧∀o v,w.cell? ⟨k,o,none⟩=some v→Yr v:=fun k hk'=>Qbf h hx hxl hk'
 have ob:∀k j,β id k→own c V Qf β k j:=fun k j hk'=>.inr ⟨_,hx,hxl,hk',Nat.zero_le _⟩
 have e3:Ext (own c V Qf β) w w':=Ext.of_lent hle fun k j _ hk'=>ob k j hk'
 have hown:∀k j,own c (V.set n0 (Xu id s H')) Qf β k j→own c V Qf β k j:=by
  rintro k' j (h1|⟨y,hy,h1,h2,h3⟩)
  ·exact .inl h1
  ·rcases hsub y hy with rfl|⟨hyV,_⟩
   ·exact ob k' j h2
   ·exact .inr ⟨y,hyV,h1,h2,h3⟩
 have hmid:Mid (own c V Qf β) w':=by
  intro k j hk'
  obtain⟨h1,h2⟩:=X8 h k j hk'
  refine⟨Nat.lt_of_lt_of_le h1 hle.size,fun u hu'=>?_⟩
  by_cases hb:β id k
  ·exact(hH.noU hb).2 j u hu'
  ·rw[World.cell?_of_block (w:=w) (a:=⟨k,j,none⟩) (hle.block k h1 hb)]at hu'
   exact h2 u hu'
 have sd:∀s,s≠d→sl (a.put (some d) v) s=sl a s:=fun s hs=>Zh fun e=>hs (Option.some.inj e).symm
 refine⟨β,by rw[Vb]; exact h.size,by rw[Ks]; exact h.defers,⟨hle.os.trans h.below.os,hle.tape.trans h.below.tape,hle.output.trans h.below.output,Nat.le_trans h.below.size hle.size,fun k hk' hn=>?_⟩,h.old_of fun k hk' hn=>?_,?_,?_,(fun p hp=>by cases hp),?_⟩
 ·rw[hle.block k (Nat.lt_of_lt_of_le hk' h.below.size) fun hb=>(hB k hb).1.elim (fun h3=>by omega) (fun h3=>hn h3)]
  exact h.below.block k hk' hn
 ·exact hle.block k (Nat.lt_of_lt_of_le hk' h.below.size) fun hb=>(hB k hb).1.elim (fun h3=>by omega) (fun h3=>hn h3)
 ·intro y hy _
  rcases hsub y hy with rfl|⟨hyV,hid⟩
  ·refine(Yk rfl).2 ⟨fun k hk'=>⟨(hB k hk').1,(hH.noU hk').1,fun o v hv=>(hH.noU hk').2 o v hv⟩,?_⟩
   show Box (Jo _ (β id)) (fun w=>HpOk (β id) w H') w'
   exact(hH.box hmid).sub fun k j _ hk'=>⟨hown k j hk'.1,hk'.2⟩
  ·have hny:∀g,β y.id g→¬β id g:=fun g hg=>h.apart y _ g hyV hx (hV y hyV).2 hxl hid hg
   refine(h.var y hyV (hV y hyV).2).keep (sd _ (hV y hyV).1) rfl (fun g hg=>hle.block g (Y5 h hyV (hV y hyV).2 hg) (hny g hg)) hle.size (fun F hF=>(hF.ext e3).sub fun k j _ hk'=>hown k j hk') (fun F hF=>?_) rfl
   have e4:Ext (Jo (own c V Qf β) (β y.id)) w w':=Ext.of_lent hle fun k j _ hk'=>⟨ob k j hk',fun hy'=>hny k hy' hk'⟩
   exact(hF.ext e4).sub fun k j _ hk'=>⟨hown k j hk'.1,hk'.2⟩
 ·intro y y' g hy hy' _ _ hne
  rcases hsub y hy with rfl|⟨hyV,hid⟩<;>rcases hsub y' hy' with rfl|⟨hyV',hid'⟩
  ·exact absurd rfl hne
  ·exact h.apart (Xu id s H) y' g hx hyV' hxl (hV y' hyV').2 hne
  ·exact h.apart y (Xu id s H) g hyV hx (hV y hyV).2 hxl hne
  ·exact h.apart y y' g hyV hyV' (hV y hyV).2 (hV y' hyV').2 hne
 ·intro e he ho hf
  rcases List.mem_cons.1 he with rfl|he
  ·show Box _ (fun w=>p w (sl (a.put (some d) v) d)) w'
   rw[J6 (by rw[h.size]; exact hd)]
   exact(hp _ w' v hmid hv).sub fun k j _ hk'=>hown k j hk'
  ·show Box _ (fun w=>e.p w (sl (a.put (some d) v) e.slot)) w'
   rw[sd _ (hG e he)]
   exact((h.ent e he ho hf).ext e3).sub fun k j _ hk'=>hown k j hk'
end
end Wx
