import Derived.Test.YtpiniclogfefjaaCSylvesterSemCopy
namespace Wx
open Go Go.RowKit

def RetLO {Λ:Type} (B:Nat→Prop) (C:Λ→Prop) (hd:Λ→Value) (H:Λ→List Bk) (w:World) (e:Ending) (w':World):Prop:=∃(l:Λ) (B':Nat→Prop),C l∧e=.returned (hd l)∧Lent B w w'∧(∀k,B' k→B k∨w.heap.size≤k)∧HpOk B' w' (H l)
section
variable {P:Program} {c:Cfg} {V:List Vr} {A:List Al} {G:List Ent} {a:Act} {w:World} {o:Oper}
variable {d:Nat} {x:Operand} {ty:TypeId} {pos:String} {aft:Array Edge}
theorem InvB.lentNew {β:Nat→Nat→Prop} {id s n0:Nat} {H H':List Bk} {v:Value} {w':World} {B':Nat→Prop} (hI:InvB c V [] G Qf β a w) (hk:V[n0]?=some (Xu id s H)) (hle:Lent (β id) w w') (hB':∀k,B' k→β id k∨w.heap.size≤k) (hHn:HpOk B' w' H') (hd:d<c.N)
  (hV:(V.all fun y=>(y.slot != d)&&(y.born.isNone&&y.dead.isNone))=true) (hu:(V.filter fun y=>y.id==id).length=1) (hG:(G.all fun e=>e.slot != d)=true):
  Inv c (V.set n0 (Xu id s H')) [] (⟨none,none,d,Qe v⟩::G) Qf (a.put (some d) v) w':=by
 have hx:=List.mem_of_getElem? hk
 have hV:∀y,y∈V→y.slot≠d∧live Qf y=true:=fun y hy=>by
  rw[List.all_eq_true]at hV
  have:=hV y hy
  simp only[Bool.and_eq_true,bne_iff_ne]at this
  refine⟨this.1,?_⟩
  unfold live
  cases hb:y.born with
  |some j=>rw[hb]at this; cases this.2.1
  |none=>cases hd:y.dead with
   |some j=>rw[hd]at this; cases this.2.2
   |none=>rfl
 have hG:∀e,e∈G→e.slot≠d:=fun e he=>by
  rw[List.all_eq_true]at hG
  simpa using hG e he
 have hkl:n0<V.length:=by
  rcases Nat.lt_or_ge n0 V.length with h'|h'
  ·exact h'
  ·rw[List.getElem?_eq_none h']at hk; cases hk
 have hxl:live Qf (Xu id s H)=true:=rfl
 have hsub:∀y,y∈V.set n0 (Xu id s H')→y=Xu id s H'∨(y∈V∧y.id≠id):=fun y hy=>by
  obtain⟨j,hj⟩:=List.mem_iff_getElem?.1 hy
  by_cases hjk:j=n0
  ·subst hjk
   rw[List.getElem?_set_self hkl]at hj
   exact .inl (Option.some.inj hj).symm
  ·rw[List.getElem?_set_ne (Ne.symm hjk)]at hj
   have hyV:=List.mem_of_getElem? hj
   by_cases hid:y.id=id
   ·exfalso
    have e:=Zr hu hyV hx (by simpa using hid) (by simp)
    subst e
    have h2:((V.filter fun y=>y.id==id).length)≥2:=by
     have hsl:[Xu id s H,Xu id s H].Sublist V:=by
      rcases Nat.lt_or_ge j n0 with hlt|hge
      ·exact Qac hj hk hlt
      ·exact Qac hk hj (by omega)
     have:=(hsl.filter fun y=>y.id==id).length_le
     simpa using this
    omega
   ·exact .inr ⟨hyV,hid⟩
 let β':Nat→Nat→Prop:=fun q=>if q=id then B' else β q
 have bx:β' id=B':=if_pos rfl
 have bo:∀y:Vr,y.id≠id→β' y.id=β y.id:=fun y hy=>if_neg hy
 have hB:∀k,β id k→mine c k∧k<w.heap.size∧∀o v,w.cell? ⟨k,o,none⟩=some v→Yr v:=fun k hk'=>Qbf hI hx hxl hk'
 have ob:∀k j,β id k→own c V Qf β k j:=fun k j hk'=>.inr ⟨_,hx,hxl,hk',Nat.zero_le _⟩
 have e3:Ext (own c V Qf β) w w':=Ext.of_lent hle fun k j _ hk'=>ob k j hk'
 have hown:∀k j,k<w.heap.size→own c (V.set n0 (Xu id s H')) Qf β' k j→own c V Qf β k j:=by
  rintro k' j hk' (h1|⟨y,hy,h1,h2,h3⟩)
  ·exact .inl h1
  ·rcases hsub y hy with rfl|⟨hyV,h4⟩
   ·have h2:β' id k':=h2
    rw[bx]at h2
    exact(hB' k' h2).elim (ob k' j) fun e=>by omega
   ·rw[bo y h4]at h2
    exact .inr ⟨y,hyV,h1,h2,h3⟩
 have hmid:Mid (own c (V.set n0 (Xu id s H')) Qf β') w':=by
  rintro k j hk'
  by_cases hkB:B' k
  ·exact⟨(hHn.noU hkB).1,fun u hu=>(hHn.noU hkB).2 j u hu⟩
  ·have:own c V Qf β k j∧¬β id k∨own c V Qf β k j∧β id k∧k<w.heap.size:=by
    rcases hk' with h1|⟨y,hy,h1,h2,h3⟩
    ·by_cases hb:β id k
     ·exact .inr ⟨.inl h1,hb,(hB k hb).2.1⟩
     ·exact .inl ⟨.inl h1,hb⟩
    ·rcases hsub y hy with rfl|⟨hyV,h4⟩
     ·have h2:β' id k:=h2
      rw[bx]at h2
      exact absurd h2 hkB
     ·rw[bo y h4]at h2
      exact .inl ⟨.inr ⟨y,hyV,h1,h2,h3⟩,fun hb=>hI.apart y _ k hyV hx (hV y hyV).2 hxl h4 h2 hb⟩
   rcases this with⟨h1,h2⟩|⟨h1,h2,h3⟩
   ·obtain⟨h5,h6⟩:=X8 hI k j h1
    refine⟨Nat.lt_of_lt_of_le h5 hle.size,fun u hu'=>h6 u ?_⟩
    rw[World.cell?_of_block (w:=w) (a:=⟨k,j,none⟩) (hle.block k h5 h2)]at hu'
    exact hu'
   ·rcases hk' with h4|⟨y,hy,h4,h5,h6⟩
    ·exact absurd ((hI.old k j h4).1) (by
      rintro⟨h7,h8⟩
      rcases (hB k h2).1 with h9|h9
      ·omega
      ·exact h8 h9)
    ·rcases hsub y hy with rfl|⟨hyV,h7⟩
     ·have h5:β' id k:=h5
      rw[bx]at h5
      exact absurd h5 hkB
     ·rw[bo y h7]at h5
      exact absurd h2 (hI.apart y _ k hyV hx (hV y hyV).2 hxl h7 h5)
 have sd:∀v s,s≠d→sl (a.put (some d) v) s=sl a s:=fun v s hs=>Zh fun e=>hs (Option.some.inj e).symm
 refine⟨β',by rw[Vb]; exact hI.size,by rw[Ks]; exact hI.defers,⟨hle.os.trans hI.below.os,hle.tape.trans hI.below.tape,hle.output.trans hI.below.output,Nat.le_trans hI.below.size hle.size,fun k hk' hn=>?_⟩,hI.old_of fun k hk' hn=>?_,fun y hy _=>?_,fun y z g hy hz _ _ hne=>?_,(fun p hp=>by cases hp),fun e he ho' hf'=>?_⟩
 ·rw[hle.block k (Nat.lt_of_lt_of_le hk' hI.below.size) fun hb=>(hB k hb).1.elim (fun h3=>by omega) (fun h3=>hn h3)]
  exact hI.below.block k hk' hn
 ·exact hle.block k (Nat.lt_of_lt_of_le hk' hI.below.size) fun hb=>(hB k hb).1.elim (fun h3=>by omega) (fun h3=>hn h3)
 ·rcases hsub y hy with rfl|⟨hyV,h4⟩
  ·refine(Yk rfl).2 ?_
   show ObjOk _ c Qf _ w' _ (β' id)
   rw[bx]
   refine⟨fun k hk'=>⟨?_,(hHn.noU hk').1,fun o v hv=>(hHn.noU hk').2 o v hv⟩,hHn.box hmid⟩
   exact(hB' k hk').elim (fun hk'=>(hB k hk').1) fun e=>.inl (Nat.le_trans hI.below.size e)
  ·have hny:∀g,β y.id g→¬β id g:=fun g hg=>hI.apart y _ g hyV hx (hV y hyV).2 hxl h4 hg
   exact(hI.var y hyV (hV y hyV).2).keep (sd _ _ (hV y hyV).1) (bo y h4) (fun g hg=>hle.block g (Y5 hI hyV (hV y hyV).2 hg) (hny g hg)) hle.size (fun F hF=>W0 e3 hown hF) (fun F hF=>by
    have e4:Ext (Jo (own c V Qf β) (β y.id)) w w':=Ext.of_lent hle fun k j _ hk'=>⟨ob k j hk',fun hy'=>hny k hy' hk'⟩
    refine W0 e4 ?_ hF
    rintro k j hk' ⟨h1,h2⟩
    exact⟨hown k j hk' h1,h2⟩) rfl
 ·rcases hsub y hy with rfl|⟨hyV,h4⟩<;>rcases hsub z hz with rfl|⟨hzV,h6⟩
  ·exact absurd rfl hne
  ·intro h1 h2
   have h1:β' id g:=h1
   rw[bx]at h1
   rw[bo z h6]at h2
   exact(hB' g h1).elim (fun h1=>hI.apart _ z g hx hzV hxl (hV z hzV).2 hne h1 h2) fun e=>absurd (Y5 hI hzV (hV z hzV).2 h2) (by omega)
  ·intro h1 h2
   have h2:β' id g:=h2
   rw[bx]at h2
   rw[bo y h4]at h1
   exact(hB' g h2).elim (fun h2=>hI.apart y _ g hyV hx (hV y hyV).2 hxl hne h1 h2) fun e=>absurd (Y5 hI hyV (hV y hyV).2 h1) (by omega)
  ·rw[bo y h4,bo z h6]
   exact hI.apart y z g hyV hzV (hV y hyV).2 (hV z hzV).2 hne
 ·rcases List.mem_cons.1 he with rfl|he
  ·refine fun w'' _=>?_
   show sl (a.put (some d) _) d=_
   exact J6 (by rw[hI.size]; exact hd)
  ·show Box _ (fun w=>e.p w (sl (a.put (some d) _) e.slot)) w'
   rw[sd _ _ (hG e he)]
   exact W0 e3 hown (hI.ent e he ho' hf')
theorem op_sliceLoG {ops:Array Oper} {ms:List Nat} {i:Nat} {y:Operand} {T E:TypeId} {sz b o' n cap:Nat} {m:Int} (h:Has ms G i x (Qe (.slice (some ⟨b,o',none⟩) n cap))) (hy:Has ms G i y (pI m)) (ht:SlTy P T E sz) (h0:0≤m) (h1:m≤n)
  (hp:Post G i (Qe (.slice (some ⟨b,if cap=m.toNat then o' else o'+m.toNat*sz,none⟩) (n-m.toNat) (cap-m.toNat)))):Xf P ops ms c V A G i ⟨some d,.slice T x (some y) none none,ty,pos,aft,none⟩:=
 J5 rfl rfl rfl (.inl rfl) hp fun L β a w hI hd=>by
  have hx:a.eval x=.slice (some ⟨b,o',none⟩) n cap:=(h.spec hI hd).out
  have hi:a.eval y=.int .i64 m:=(hy.spec hI hd).out
  refine⟨_,w,?_,Below.refl _ _,fun _ _=>rfl⟩
  show(do pure (Next.value (← Instr.sliceAt T (a.eval x) (some (a.eval y)) none none))).run P w=_
  rw[hx,hi]
  have hr:(Instr.sliceAt T (.slice (some ⟨b,o',none⟩) n cap) (some (.int .i64 m)) none none).run P w=.ok (.slice (some ⟨b,if cap=m.toNat then o' else o'+m.toNat*sz,none⟩) (n-m.toNat) (cap-m.toNat)) w:=by
   have e1:(Instr.sliceBound (.int .i64 m) n .sliceB).run P w=.ok m.toNat w:=run_sliceBound w .i64 m n .sliceB h0 h1
   simp only[Instr.sliceAt,Sem.run_bind,run_underlying ht.under,Result.andThen_ok,Instr.slice,Instr.sliceBounds,Sem.run_pure]
   by_cases hne:cap=m.toNat
   ·simp only[Option.isSome_none,Bool.false_eq_true,if_false,e1,Result.andThen_ok,ht.size w,if_pos hne]
   ·simp only[Option.isSome_none,Bool.false_eq_true,if_false,e1,Result.andThen_ok,ht.size w,hne,Option.map_some,Addr.add_mid]
  rw[Sem.run_bind,hr]
  rfl
theorem U1 {Λ:Type} {C:Λ→Prop} {hd:Λ→Value} {Hl:Λ→List Bk} {id s n0:Nat} {H:List Bk} {p1:Qj} {f:FuncId} {ts:Array TypeId} {ops:Array Oper} (hf:Y1 P f) (h:Inv c V [] G Qf a w) (hk:V[n0]?=some (Xu id s H)) (h1:Has [0] G 0 x p1)
  (hc:∀M B w v1,Mid M w→(∀k,B k→∀o,¬M k o)→HpOk B w H→Box (Jg M B) (fun w=>p1 w v1) w→Calls P f #[v1] w (RetLO B C hd Hl w)) (hd':decide (d<c.N)=true)
  (hV:(V.all fun y=>(y.slot != d)&&(y.born.isNone&&y.dead.isNone))=true) (hu:(V.filter fun y=>y.id==id).length=1) (hG:(G.all fun e=>e.slot != d)=true):
  DoesG P ops ⟨some d,.call ⟨.value (.func f),#[x],ts⟩,ty,pos,aft,none⟩ a w (fun a w=>∃l,C l∧Inv c (V.set n0 (Xu id s (Hl l))) [] (⟨none,none,d,Qe (hd l)⟩::G) Qf a w):=by
 obtain⟨β,hI⟩:=h
 refine .of rfl (Qas hf (Calls.mono (by
  rw[show(#[x]:Array Operand).map a.eval=#[a.eval x] by simp]
  exact hc _ _ w _ (Qd6 (X8 hI)) (fun k hk o ho=>ho.2 hk) (hI.obj hk).1 (Qab hI hk (h1.spec hI det0))) ?_))
 rintro e w' ⟨l,B',k1,rfl,k2,k3,k4⟩
 exact⟨_,rfl,l,k1,hI.lentNew hk k2 k3 k4 (of_decide_eq_true hd') hV hu hG⟩
theorem Qaz {Λ:Type} {C:Λ→Prop} {hd:Λ→Value} {Hl:Λ→List Bk} {fn:Func} {f:FuncId} {D:Code} {vs:List Value} {N id s:Nat} {M:Nat→Nat→Prop} {B:Nat→Prop} {H:List Bk} (hf:P.funcs[f]?=some fn) (hb:fn.body=some D) (hN:fn.ntmps=N) (hlen:decide (vs.length≤N)=true)
  (hM:Mid M w) (hBM:∀k,B k→∀o,¬M k o) (hH:HpOk B w H) (hG:EntsA (Jg M B) w vs G)
  (h:∀a,Inv ⟨N,w,M,B⟩ [Xu id s H] [] G Qf a w→D.wp P (bodyPost P fn (RetLO B C hd Hl w)) a w):Calls P f vs.toArray w (RetLO B C hd Hl w):=
 calls_of_wp hf hb (h _ (inv_startL hM hBM hH (by have:=of_decide_eq_true hlen; simp[hN]; omega) rfl hG.ok))
variable {fn:Func}
theorem finLO {Λ:Type} {C:Λ→Prop} {hd:Λ→Value} {Hl:Λ→List Bk} {N id s n0:Nat} {w0:World} {M:Nat→Nat→Prop} {B:Nat→Prop} {r:ResultVar} (l:Λ) (hC:C l) (hI:Inv ⟨N,w0,M,B⟩ V [] G Qf a w) (hr:fn.results=#[r]) (hk:V[n0]?=some (Xu id s (Hl l))) (h:ResOk P V G r (Qe (hd l))):bodyPost P fn (RetLO B C hd Hl w0) .ret a w:=by
 obtain⟨β,hI⟩:=hI
 obtain⟨v,k1,k2⟩:=h.run hI
 have e:v=hd l:=k2.out
 obtain⟨h1,h2,_⟩:=hI.obj hk
 refine Ke hI (v:=v) ?_ ⟨l,β id,hC,by rw[e],hI.below,fun k hk'=>(h2 k hk').symm,h1⟩
 rw[Jy,hr]
 simp[k1]
theorem finJoin {Λ:Type} {C:Λ→Prop} {hd:Λ→Value} {Hl:Λ→List Bk} {N id id1 s s1 n0 n1 n:Nat} {w0:World} {M:Nat→Nat→Prop} {B:Nat→Prop} {H:List Bk} {T:TypeId} {vs:Nat→Value} {m' k:Nat} {ag:Bool} {p0:Y9} {st:List (Nat×Y9)}
  (hI:Inv ⟨N,w0,M,B⟩ V [] G Qf a w) (hr:fn.results=#[.tmp s1]) (hk:V[n0]?=some (Xu id s H)) (hk1:V[n1]?=some ⟨id1,s1,none,none,.grow n 1,T,m',ag,p0,st⟩) (hne:id≠id1) (hg:G[k]?=some ⟨none,none,s1,Qg 1 false n (fun i=>Qe (vs i))⟩)
  (h:(n=0→∀A cap,∃l,C l∧hd l=.slice A 0 cap∧Hl l=H)∧(0<n→∀b cap,n≤cap→cap≤maxLen→(∀e,e∈H→e.b≠b)→∃l,C l∧hd l=.slice (some ⟨b,0,none⟩) n cap∧Hl l=⟨b,1,false,(List.range n).map fun i=>Z2 (vs i)⟩::H)):bodyPost P fn (RetLO B C hd Hl w0) .ret a w:=by
 obtain⟨β,hI⟩:=hI
 have hx:=List.mem_of_getElem? hk1
 obtain⟨h1,h2,_⟩:=hI.obj hk
 have res:(results fn a.tmps).run P w=.ok (sl a s1) w:=by
  rw[Jy,hr]
  simp[resRun,sl]
 rcases (Yu (m:=n) (sz:=1) rfl).1 (hI.var _ hx rfl)with⟨_,h0,hsv⟩|⟨b,cap,cur,hB,hsv,hmine,hblk,hcl,hmc,hcm,hcu⟩
 ·obtain⟨l,k1,k2,k3⟩:=h.1 h0 none 0
  exact Ke hI res ⟨l,β id,k1,by rw[k2,hsv],hI.below,fun k hk'=>(h2 k hk').symm,by rw[k3]; exact h1⟩
 ·have hnb:∀e,e∈H→e.b≠b:=fun e he hb=>hI.apart _ _ b (List.mem_of_getElem? hk) hx rfl rfl hne ((h1.1 b).2 ⟨e,he,hb⟩) ((hB b).2 rfl)
  rcases Nat.eq_zero_or_pos n with h0|hn
  ·-- nothing was put in, but there is a block
   obtain⟨l,k1,k2,k3⟩:=h.1 h0 (some ⟨b,0,none⟩) cap
   exact Ke hI res ⟨l,β id,k1,by rw[k2,hsv,h0],hI.below,fun k hk'=>(h2 k hk').symm,by rw[k3]; exact h1⟩
  ·obtain⟨l,k1,k2,k3⟩:=h.2 hn b cap hmc hcm hnb
   refine Ke hI res ⟨l,fun k=>β id k∨k=b,k1,by rw[k2,hsv],hI.below,fun k hk'=>hk'.elim (fun hk'=>(h2 k hk').symm) (fun e=>e▸hmine.symm),?_⟩
   rw[k3]
   refine⟨fun k=>⟨?_,?_⟩,List.pairwise_cons.2 ⟨fun e he=>Ne.symm (hnb e he),h1.2.1⟩,fun e he=>?_⟩
   ·rintro(hk'|rfl)
    ·obtain⟨e,he,hb⟩:=(h1.1 k).1 hk'
     exact⟨e,List.mem_cons_of_mem _ he,hb⟩
    ·exact⟨_,List.mem_cons_self ..,rfl⟩
   ·rintro⟨e,he,hb⟩
    rcases List.mem_cons.1 he with rfl|he
    ·exact .inr hb.symm
    ·exact .inl ((h1.1 k).2 ⟨e,he,hb⟩)
   ·rcases List.mem_cons.1 he with rfl|he
    ·refine⟨cur,T,hblk,?_,hcu,fun i it hi=>?_⟩
     ·show((List.range n).map _).length*1≤cur.length
      rw[List.length_map,List.length_range,hcl]
      omega
     ·have hi:((List.range n).map fun i=>Z2 (vs i))[i]?=some it:=hi
      have hil:i<n:=by
       rcases Nat.lt_or_ge i n with h'|h'
       ·exact h'
       ·rw[List.getElem?_eq_none (by rw[List.length_map,List.length_range]; exact h')]at hi; cases hi
      rw[List.getElem?_map,List.getElem?_range hil]at hi
      injection hi with hi
      subst hi
      obtain⟨A',cap',e,_,_,hel⟩:=(hI.ent _ (List.mem_of_getElem? hg) rfl rfl).out
      have e:sl a s1=.slice A' n cap':=e
      rw[hsv]at e
      injection e with eA _ _
      obtain⟨b',o',eb,hel⟩:=hel hn
      rw[← eA]at eb
      injection eb with eb
      injection eb with e1 e2
      subst e1 e2
      obtain⟨cs,hl,hc,hf⟩:=hel i hil
      have:(cur.drop (i*1)).take 1=cs:=by
       refine W1 (w:=w) (b:=b) (o:=i*1) (by rw[List.length_take,List.length_drop,hl,hcl]; omega) (fun j u hj=>?_) (fun j u hj=>by have:=hc j u hj; rwa [Nat.zero_add]at this)
       rw[List.getElem?_take]at hj
       split at hj
       ·rw[List.getElem?_drop]at hj
        simp only[World.cell?,hblk]
        simpa using hj
       ·cases hj
      show Q6 false ((cur.drop (i*1)).take 1)=vs i
      rw[this]
      exact hf
    ·exact h1.2.2 e he
end
end Wx
