import Derived.Test.YtpiniclogfefjaaCSylvesterSemApp
namespace Wx
open Go Go.RowKit
section
variable {c:Cfg} {V:List Vr} {G:List Ent} {a:Act} {w:World}
theorem Inv.restObj {id s n0 slot k:Nat} {H:List Bk} {hd:Value} {p:Qj} (h:Inv c V [] G Qf a w) (hk:V[n0]?=some (Xu id s H)) (hu:((V.eraseIdx n0).all fun y=>y.id != id)=true) (hg:G[k]?=some ⟨none,none,slot,Qe hd⟩) (hp:∀B w,HpOk B w H→p w hd):Inv c (V.eraseIdx n0) [] (⟨none,none,slot,p⟩::G.eraseIdx k) Qf a w:=by
 obtain⟨β,h⟩:=h
 have hx:=List.mem_of_getElem? hk
 have hsub:∀y,y∈V.eraseIdx n0→y∈V∧y.id≠id:=fun y hy=>⟨List.mem_of_mem_eraseIdx hy,by
  have:=List.all_eq_true.1 hu y hy
  simpa using this⟩
 obtain⟨h1,h2,_⟩:=h.obj hk
 have eo:∀k o,own c (V.eraseIdx n0) Qf β k o→own c V Qf β k o∧¬β id k:=by
  rintro k o (hM|⟨y,hy,k1,k2,k3⟩)
  ·refine⟨.inl hM,fun hb=>?_⟩
   have:=(h.old k o hM).1
   exact(h2 k hb).elim (fun h'=>absurd this.1 (Nat.not_lt.2 h')) (fun h'=>this.2 h')
  ·obtain⟨hy,hid⟩:=hsub y hy
   exact⟨.inr ⟨y,hy,k1,k2,k3⟩,fun hb=>h.apart y _ k hy hx k1 rfl hid k2 hb⟩
 refine⟨β,h.size,h.defers,h.below,h.old,fun y hy hl=>(h.var y (hsub y hy).1 hl).keep rfl rfl (fun _ _=>rfl) (Nat.le_refl _) (fun F hF=>hF.sub fun k o _ hh=>(eo k o hh).1) (fun F hF=>hF.sub fun k o _ hh=>⟨(eo k o hh.1).1,hh.2⟩) rfl,fun y z g hy hz=>h.apart y z g (hsub y hy).1 (hsub z hz).1,(fun p hp=>by cases hp),fun e he ho hf=>?_⟩
 rcases List.mem_cons.1 he with rfl|he
 ·have e1:sl a slot=hd:=(h.ent _ (List.mem_of_getElem? hg) rfl rfl).out
  show Box _ (fun w=>p w (sl a slot)) w
  rw[e1]
  exact((h1.box (X8 h)).imp fun w hH=>hp _ w hH).sub fun k o _ hh=>eo k o hh
 ·exact(h.ent e (List.mem_of_mem_eraseIdx he) ho hf).sub fun k o _ hh=>(eo k o hh).1
end
section
variable {P:Program} {ops:Array Oper} {ms:List Nat} {c:Cfg} {V:List Vr} {A:List Al} {G:List Ent} {i:Nat} {d:Nat} {x y z u:Operand} {ty:TypeId} {pos:String} {aft:Array Edge}
theorem op_max3z {ts:Array TypeId} (h1:Has ms G i x (pI 0)) (h2:Has ms G i y (pI 0)) (h3:Has ms G i z (pI 0)) (hp:Post G i (pI 0)):Xf P ops ms c V A G i ⟨some d,.call ⟨.builtin .max,#[x,y,z],ts⟩,ty,pos,aft,none⟩:=
 op_val3 rfl rfl rfl rfl h1 h2 h3 hp fun ρ w h1 h2 h3=>⟨.int .i64 0,by
  have h1:ρ x=.int .i64 0:=h1
  have h2:ρ y=.int .i64 0:=h2
  have h3:ρ z=.int .i64 0:=h3
  show(do let d ← resolve ρ ⟨.builtin .max,#[x,y,z],ts⟩ ty; invoke d.target d.args).run P w=_
  simp only[resolve,invoke,pure_bind,builtin]
  rw[show(#[x,y,z]:Array Operand).map ρ=#[ρ x,ρ y,ρ z] by simp,h1,h2,h3]
  rfl,fun _ _ _ _=>rfl⟩
end
end Wx

namespace Wx
open Go Go.RowKit

def Uy (sz:Nat) (ag:Bool) (n:Nat) (f:Nat→Qj):Qj:=fun w v=>∃cs:List Value,v=.agg cs.toArray∧cs.length=n*sz∧∀i,i<n→f i w (Q6 ag ((cs.drop (i*sz)).take sz))
def setP (f:Nat→Qj) (q:Nat) (p:Qj):Nat→Qj:=fun i=>if i=q then p else f i
theorem pCel_to {sz n:Nat} {ag:Bool} {f f':Nat→Qj} (h:∀i,i<n→∀w v,f i w v→f' i w v):∀w v,Uy sz ag n f w v→Uy sz ag n f' w v:=fun w _ ⟨cs,e,hl,hf⟩=>⟨cs,e,hl,fun i hi=>h i hi w _ (hf i hi)⟩
section
variable {P:Program} {ops:Array Oper} {ms:List Nat} {c:Cfg} {V:List Vr} {A:List Al} {G:List Ent} {i:Nat} {L:Nat→Bool} {β:Nat→Nat→Prop} {a:Act} {w:World} {o:Oper}
variable {d:Nat} {x y z:Operand} {ty:TypeId} {pos:String} {aft:Array Edge}
theorem row_var (hI:InvB c V A G L β a w) (hd:Det ms i L) {x:Vr} {n:Nat} (hx:x∈V) (ho:Zm ms i x=true) (hk:x.kd=.row n):∃g,(∀k,β x.id k↔k=g)∧sl a x.slot=.slice (some ⟨g,0,none⟩) n n∧BlkOk (own c V L β) c L a w x g:=by
 obtain⟨g,h1,h2,h3⟩:=(Y8 (by rw[hk]; rfl)).1 (hI.var x hx (hd.live ho))
 rw[hk]at h2
 exact⟨g,h1,h2,h3⟩
theorem op_makeSliceC {T E:TypeId} {sz n:Nat} {ag:Bool} {p0:Qj} {zv:Value} {z:List Value} {yv:Vr} (k:Nat) (hk:V[k]?=some yv) (hb:yv.born=some i) (hst:((yv.st.all fun q=>(ms.getD q.1 0).testBit i)&&V.all fun y=>y.dead != some i)=true) (hno:(G.all fun e=>e.tag != some i)=true) (hal:(A.all fun p=>p.var != yv.id||p.tag.any fun j=>(ms.getD j 0).testBit i)=true)
  (hkd:yv.kd=.row n) (hT:yv.T=E) (hyn:yv.n=n*sz) (hag:yv.agg=true) (hc0:yv.c0=pv (Uy sz ag n fun _=>p0)) (h1:Has ms G i x (pI n)) (h2:Has ms G i y (pI n)) (ht:P.underlying T=some (.slice E)) (hi:(P.info? E).map (fun i=>(i.zero,i.size,decide (i.bytes≤4096)))=some (some zv,sz,true)) (hzc:zv.cells=z.toArray) (hzl:z.length=sz) (hs:0<sz) (hzu:∀u∈z,Yr u) (hit:∀w,p0 w (Q6 ag z)) (hn:n≤1000000):
  Xf P ops ms c V A G i ⟨some d,.makeSlice T x y,ty,pos,aft,none⟩:=by
 refine J9 (fun L β a w hI hd hwf=>?_) rfl
 obtain⟨ti,h3,hzz⟩:=Option.map_eq_some_iff.1 hi
 simp only[Prod.mk.injEq,decide_eq_true_eq]at hzz
 obtain⟨hz,hsz,hby⟩:=hzz
 have ex:a.eval x=.int .i64 n:=(h1.spec hI hd).out
 have ey:a.eval y=.int .i64 n:=(h2.spec hI hd).out
 have hbytes:(ti.bytes:Int)*(n:Int)≤281474976710656:=by
  have:ti.bytes*n≤4096*1000000:=Nat.mul_le_mul hby hn
  have:((ti.bytes*n:Nat):Int)≤4096000000:=by omega
  rw[Int.natCast_mul]at this
  omega
 have hrun:=run_make (P:=P) w T E ti zv ht h3 hz .i64 .i64 (n:Int) (n:Int) (by omega) (Int.le_refl _) hbytes (by omega)
 rw[hsz,hzc,Int.toNat_natCast]at hrun
 have hcell:madeCells z.toArray (n*sz)=((madeCells z.toArray (n*sz)).toList).toArray:=by simp
 rw[hcell]at hrun
 have hr:(execOp a.eval ⟨some d,.makeSlice T x y,ty,pos,aft,none⟩).run P w=.ok (.value (.slice (some ⟨w.heap.size,0,none⟩) n n)) (w.alloc (.cells ((madeCells z.toArray (n*sz)).toList).toArray E)):=by
  show(do pure (Next.value (← Instr.makeSlice T (a.eval x) (a.eval y)))).run P w=_
  rw[ex,ey,Sem.run_bind,hrun]
  rfl
 rw[Bool.and_eq_true]at hst
 refine Z5 hr ?_
 rw[← hT]
 have hlen:((madeCells z.toArray (n*sz)).toList).length=n*sz:=by
  rw[Array.length_toList]
  simp[madeCells]
 have:=hI.bornAt hd hwf (List.mem_of_getElem? hk) hb (by rw[hkd]; rfl) hst.1 hst.2 (hlen.trans hyn.symm) (fun v hv=>by
  obtain⟨q,hq⟩:=List.mem_iff_getElem?.1 hv
  rw[Array.getElem?_toList]at hq
  simp only[madeCells,Array.getElem?_map,Option.map_eq_some_iff]at hq
  obtain⟨q',_,rfl⟩:=hq
  have hlt:q'%z.toArray.size<z.toArray.size:=Nat.mod_lt _ (by simp; omega)
  rw[getElem!_pos z.toArray _ hlt]
  exact hzu _ (by simp)) (by
  rw[hc0,hag]
  exact fun w' _=>⟨_,rfl,hlen,fun j hj=>by rw[made_seg hzl hj]; exact hit w'⟩) rfl hno hal rfl rfl
 rwa [hkd]at this
theorem Inv.openRow (h:Inv c V A G Qf a w) (k:Nat) {x:Vr} {n:Nat} (hk:V[k]?=some x) (hb:live Qf x=true) (hkd:x.kd=.row n):∃g,Inv c V A (⟨none,none,x.slot,Qe (.slice (some ⟨g,0,none⟩) n n)⟩::G) Qf a w:=by
 obtain⟨β,h⟩:=h
 obtain⟨g,_,h2,_⟩:=(Y8 (by rw[hkd]; rfl)).1 (h.var x (List.mem_of_getElem? hk) hb)
 refine⟨g,β,h.size,h.defers,h.below,h.old,h.var,h.apart,h.al,fun e he ho hf=>?_⟩
 rcases List.mem_cons.1 he with rfl|he
 ·refine fun w' _=>?_
  show sl a x.slot=_
  rw[h2,hkd]
  rfl
 ·exact h.ent e he ho hf
theorem hdr_block {g g' n:Nat} (h:(Value.slice (some ⟨g,0,none⟩) n n)=.slice (some ⟨g',0,none⟩) n n):g=g':=by
 injection h with h
 injection h with h
 injection h
theorem op_storeC {T:TypeId} {sz n q g off:Nat} {ag:Bool} {f:Nat→Qj} {p:Qj} {v:Vr} (k:Nat) (hk:V[k]?=some v) (ho:Zm ms i v=true) (hkd:v.kd=.row n) (hst:(v.st.all fun q=>q.1==i||((ms.getD i 0).testBit q.1||(ms.getD q.1 0).testBit i))=true) (hag:v.agg=true) (hvn:v.n=n*sz)
  (m:Nat) (hm:v.st[m]?=some (i,pv (Uy sz ag n (setP f q p)))) (hr:((v.st.drop (m+1)).all fun r=>(ms.getD r.1 0).testBit i)=true) (hoth:(V.all fun y=>y.id==v.id||y.st.all fun q=>q.1 != i)=true)
  (hg:Has ms G i (.tmp v.slot) (Qe (.slice (some ⟨g,0,none⟩) n n))) (hx:Has ms G i x (Qe (.pointer (some ⟨g,off,none⟩)))) (hoff:off=q*sz) (hq:q<n) (ht:Ty P T ag sz) (hc:cont (fun j=>(ms.getD i 0).testBit j) v.c0 v.st=pv (Uy sz ag n f)) (h:Has ms G i y p) (hf:Jn sz ag p):
  Xf P ops ms c V A G i ⟨none,.store T x y,ty,pos,aft,none⟩:=by
 refine J9 (fun L β a w hI hd hwf=>?_) rfl
 have hv:=List.mem_of_getElem? hk
 obtain⟨g',hgk,hs,hvo⟩:=row_var hI hd hv ho hkd
 have hs':sl a v.slot=.slice (some ⟨g,0,none⟩) n n:=(hg.spec hI hd).out
 obtain rfl:=hdr_block (hs.symm.trans hs')
 obtain⟨cs,h1,h2,h3,h4⟩:=hvo.held
 have hst':cont L v.c0 v.st=cont (fun j=>(ms.getD i 0).testBit j) v.c0 v.st:=by
  rw[List.all_eq_true]at hst
  refine Up fun r hr'=>?_
  have:=hst r hr'
  simp only[Bool.or_eq_true,beq_iff_eq]at this
  rcases this with h5|h5|h5
  ·rw[h5,hd.no,hd.irrefl]
  ·rw[hd.before _ h5,h5]
  ·have h6:=hd.behind _ h5
   rw[h6]
   cases h7:(ms.getD i 0).testBit r.1 with
   |false=>rfl
   |true=>rw[hd.before _ h7]at h6; cases h6
 rw[hst',hc]at h4
 have hp:=h.spec hI hd
 obtain⟨ds,e,hl,hcells,hu⟩:=hf w _ hp.out
 have e0:a.eval x=.pointer (some ⟨g',off,none⟩):=(hx.spec hI hd).out
 have hlen:cs.length=n*sz:=h2.trans hvn
 have hle:q*sz+sz≤n*sz:=by
  have:=Nat.mul_le_mul_right sz hq
  rw[Nat.succ_mul]at this
  exact this
 have hr':(execOp a.eval ⟨none,.store T x y,ty,pos,aft,none⟩).run P w=.ok .skip (w.setRow g' (cs.take off++ds++cs.drop (off+sz)).toArray):=by
  show(do Instr.storeAt T (a.eval x) (a.eval y); pure Next.skip).run P w=_
  rw[e0]
  have:=Qbv (P:=P) (off:=off) ht h1 hcells hl (by omega) (fun u hu'=>(hu u hu').2)
  simp only[Sem.run_bind,this,Result.andThen_ok,Sem.run_pure]
 unfold Does
 rw[hr']
 refine hI.stored hwf rfl hv (hd.live ho) (by rw[hkd]; rfl) rfl hgk h1 (by simp; omega) (fun u hu'=>?_) ?_ hoth _
 ·simp only[List.mem_append]at hu'
  rcases hu' with(h5|h5)|h5
  ·exact h3 u (List.mem_of_mem_take h5)
  ·exact(hu u h5).1
  ·exact h3 u (List.mem_of_mem_drop h5)
 ·rw[Qd0 m hm hd hr]
  intro w' he
  have h5:Uy sz ag n f w' (Q6 v.agg cs):=h4 w' he
  have h6:p w' (Q6 ag ds):=by rw[← e]; exact hp w' he
  have hw:∀l:List Value,Q6 v.agg l=.agg l.toArray:=fun l=>by rw[hag]; rfl
  rw[hw]at h5
  show Uy sz ag n (setP f q p) w' (Q6 v.agg _)
  rw[hw]
  obtain⟨cs',e1,_,e3⟩:=h5
  injection e1 with e1
  obtain rfl:=List.toArray_inj e1
  refine⟨_,rfl,by simp; omega,fun j hj=>?_⟩
  rw[hoff,seg_set (n:=n) (by omega) hq hl hj]
  unfold setP
  split
  ·exact h6
  ·exact e3 j hj
theorem InvB.rowHanded (hI:InvB c V A G L β a w) (hd:Det ms i L) (hwf:WfAt c.N ops V A G i o) {xv yv:Vr} {n:Nat} {C:Y9} (hx:xv∈V) (ho:Zm ms i xv=true) (hkd:xv.kd=.row n) (hdead:xv.dead=some i) (hst:(xv.st.all fun q=>(ms.getD i 0).testBit q.1||(ms.getD q.1 0).testBit i)=true) (hc:cont (fun j=>(ms.getD i 0).testBit j) xv.c0 xv.st=C)
  (hy:yv∈V) (hb:yv.born=some i) (hkd2:yv.kd=.row n) (hT:yv.T=xv.T) (hn:yv.n=xv.n) (hag:yv.agg=xv.agg) (hc0:yv.c0=C) (hs0:yv.st=[]) (hno:(G.all fun e=>e.tag != some i)=true) (hal:(A.all fun p=>p.var != yv.id||p.tag.any fun j=>(ms.getD j 0).testBit i)=true) (hsto:Jl o.op=false) (hna:Kf o.op=false):Inv c V A G (X3 L i) (a.put o.dst (sl a xv.slot)) w:=by
 have hlx:=hd.live ho
 obtain⟨g,h1,h2,h3⟩:=row_var hI hd hx ho hkd
 have hdst:=hwf.v2 yv hy hb
 have only:∀z,z∈V→live L z=true→z.dead≠some i→z.id≠xv.id:=fun z hz _ hdz e=>by
  have:=hwf.vu z xv hz hx e
  subst this
  exact hdz hdead
 refine hI.remake hd hwf hy hb hsto hna hal (B':=β xv.id) ⟨rfl,rfl,rfl,Nat.le_refl _⟩ (fun _ _ _=>rfl) (fun z hz hl hdz k hk=>⟨rfl,fun e=>hI.apart z xv k hz hx hl hlx (only z hz hl hdz) hk e⟩) (Ext.refl _ _) (fun _ _ _ _=>Ext.refl _ _) (fun k j _ hk _=>.inr ⟨xv,hx,hlx,hk,by unfold Vr.lo; rw[hkd]; exact Nat.zero_le _⟩) (fun β' hβ' hown _=>?_) (fun β' _ _ _ e he ht'=>?_)
 ·refine(Y8 (by rw[hkd2]; rfl)).2 ⟨g,fun k=>by rw[hβ']; exact h1 k,by rw[hdst,J6 (by rw[hI.size]; exact hwf.sz _ hdst),h2,hkd2]; rfl,?_⟩
  obtain⟨cs,k1,k2,k3,k4⟩:=h3.held
  refine⟨h3.new,cs,by rw[hT]; exact k1,by rw[hn]; exact k2,k3,?_⟩
  rw[Qcr hd hst,hc]at k4
  rw[hs0,hc0,hag]
  exact k4.sub hown
 ·have:=List.all_eq_true.1 hno e he
  rw[ht']at this
  simp at this
theorem op_assignC {n s:Nat} {xv yv:Vr} {C:Y9} (k:Nat) (hk:V[k]?=some xv) (hsl:xv.slot=s) (ho:Zm ms i xv=true) (hkd:xv.kd=.row n) (hdead:xv.dead=some i) (hst:(xv.st.all fun q=>(ms.getD i 0).testBit q.1||(ms.getD q.1 0).testBit i)=true) (hc:cont (fun j=>(ms.getD i 0).testBit j) xv.c0 xv.st=C)
  (k2:Nat) (hk2:V[k2]?=some yv) (hb:yv.born=some i) (hkd2:yv.kd=.row n) (hT:yv.T=xv.T) (hn:yv.n=xv.n) (hag:yv.agg=xv.agg) (hc0:yv.c0=C) (hs0:yv.st=[]) (hno:(G.all fun e=>e.tag != some i)=true) (hal:(A.all fun p=>p.var != yv.id||p.tag.any fun j=>(ms.getD j 0).testBit i)=true):
  Xf P ops ms c V A G i ⟨some d,.assign (.tmp s),ty,pos,aft,none⟩:=
 J9 (fun _ _ a w hI hd hwf=>by
  subst hsl
  exact Z5 (v:=sl a xv.slot) (w':=w) rfl (hI.rowHanded hd hwf (List.mem_of_getElem? hk) ho hkd hdead hst hc (List.mem_of_getElem? hk2) hb hkd2 hT hn hag hc0 hs0 hno hal rfl rfl)) rfl
theorem Inv.restRow {id s n0 n m k0:Nat} {T:TypeId} {sz:Nat} {ag:Bool} {f f':Nat→Qj} (h:Inv c V [] G Qf a w) (hk:V[n0]?=some ⟨id,s,none,none,.row n,T,m,true,pv (Uy sz ag n f),[]⟩) (hu:((V.eraseIdx n0).all fun y=>y.id != id)=true) (hn:n≤1000000) (hf:∀i,i<n→∀w v,f i w v→f' i w v):Inv c (V.eraseIdx n0) [] (⟨none,none,s,Qg sz ag n f'⟩::G.eraseIdx k0) Qf a w:=by
 obtain⟨β,h⟩:=h
 have hx:=List.mem_of_getElem? hk
 have hsub:∀y,y∈V.eraseIdx n0→y∈V∧y.id≠id:=fun y hy=>⟨List.mem_of_mem_eraseIdx hy,by
  have:=List.all_eq_true.1 hu y hy
  simpa using this⟩
 obtain⟨g,h1,h2,h3⟩:=(Y8 (by rfl)).1 (h.var _ hx rfl)
 have h1:∀k,β id k↔k=g:=h1
 have h2:sl a s=.slice (some ⟨g,0,none⟩) n n:=h2
 obtain⟨cs,k1,k2,k3,k4⟩:=h3.held
 have k4:Box (own c V Qf β) (fun w=>Uy sz ag n f w (.agg cs.toArray)) w:=k4
 have hnew:mine c g:=h3.new
 have hgl:g<w.heap.size:=by
  rcases Nat.lt_or_ge g w.heap.size with h'|h'
  ·exact h'
  ·rw[Array.getElem?_eq_none h']at k1; cases k1
 have eo:∀k o,own c (V.eraseIdx n0) Qf β k o→own c V Qf β k o∧k≠g:=by
  rintro k o (hM|⟨y,hy,q1,q2,q3⟩)
  ·refine⟨.inl hM,fun hb=>?_⟩
   have:=(h.old k o hM).1
   rw[hb]at this
   exact hnew.elim (fun h'=>absurd this.1 (Nat.not_lt.2 h')) (fun h'=>this.2 h')
  ·obtain⟨hy,hid⟩:=hsub y hy
   exact⟨.inr ⟨y,hy,q1,q2,q3⟩,fun hb=>h.apart y _ k hy hx q1 rfl hid q2 ((h1 k).2 hb)⟩
 refine⟨β,h.size,h.defers,h.below,h.old,fun y hy hl=>(h.var y (hsub y hy).1 hl).keep rfl rfl (fun _ _=>rfl) (Nat.le_refl _) (fun F hF=>hF.sub fun k o _ hh=>(eo k o hh).1) (fun F hF=>hF.sub fun k o _ hh=>⟨(eo k o hh.1).1,hh.2⟩) rfl,fun y z g hy hz=>h.apart y z g (hsub y hy).1 (hsub z hz).1,(fun p hp=>by cases hp),fun e he ho hf'=>?_⟩
 rcases List.mem_cons.1 he with rfl|he
 ·intro w' hw'
  show Qg sz ag n f' w' (sl a s)
  rw[h2]
  obtain⟨cs',e1,e2,e3⟩:=k4 w' (hw'.mono fun k o _ hh=>(eo k o hh).1)
  injection e1 with e1
  obtain rfl:=List.toArray_inj e1
  have hb:w'.heap[g]?=some (.cells cs.toArray T (0,0)):=(hw'.block g hgl fun o hh=>(eo g o hh).2 rfl).trans k1
  refine⟨_,_,rfl,Nat.le_refl _,by unfold maxLen; omega,fun _=>⟨g,0,rfl,fun q hq=>⟨(cs.drop (q*sz)).take sz,?_,fun j v hj=>?_,hf q hq _ _ (e3 q hq)⟩⟩⟩
  ·have:q*sz+sz≤n*sz:=by
    have:=Nat.mul_le_mul_right sz hq
    rw[Nat.succ_mul]at this
    exact this
   rw[List.length_take,List.length_drop]
   omega
  ·rw[Nat.zero_add]
   exact V5 hb _ _ j v hj
 ·exact(h.ent e (List.mem_of_mem_eraseIdx he) ho hf').sub fun k o _ hh=>(eo k o hh).1
end
theorem pRats_len {l:List Rat} {n:Nat} (h:l.length=n):Qd l=Qg 3 true n fun i=>Qk (l.getD i 0):=by
 subst h
 rfl
end Wx
