import Derived.Test.YtpiniclogfefjaaGreatCMatricesSemApp
namespace Wx
open Go Go.RowKit
section
variable {c:Cfg} {V:List Vr} {G:List Ent} {a:Act} {w:World}
end
section
variable {P:Program} {ops:Array Oper} {ms:List Nat} {c:Cfg} {V:List Vr} {A:List Al} {G:List Ent} {i:Nat} {d:Nat} {x y z u:Operand} {ty:TypeId} {pos:String} {aft:Array Edge}
end
end Wx

namespace Wx
open Go Go.RowKit

def Z4 (sz:Nat) (ag:Bool) (n:Nat) (f:Nat→Qm):Qm:=fun w v=>∃cs:List Value,v=.agg cs.toArray∧cs.length=n*sz∧∀i,i<n→f i w (Xj ag ((cs.drop (i*sz)).take sz))
def setP (f:Nat→Qm) (q:Nat) (p:Qm):Nat→Qm:=fun i=>if i=q then p else f i
theorem Vu {sz n:Nat} {ag:Bool} {f f':Nat→Qm} (h:∀i,i<n→∀w v,f i w v→f' i w v):∀w v,Z4 sz ag n f w v→Z4 sz ag n f' w v:=fun w _ ⟨cs,e,hl,hf⟩=>⟨cs,e,hl,fun i hi=>h i hi w _ (hf i hi)⟩
section
variable {P:Program} {ops:Array Oper} {ms:List Nat} {c:Cfg} {V:List Vr} {A:List Al} {G:List Ent} {i:Nat} {L:Nat→Bool} {β:Nat→Nat→Prop} {a:Act} {w:World} {o:Oper}
variable {d:Nat} {x y z:Operand} {ty:TypeId} {pos:String} {aft:Array Edge}
theorem row_var (hI:InvB c V A G L β a w) (hd:Det ms i L) {x:Vr} {n:Nat} (hx:x∈V) (ho:Z2 ms i x=true) (hk:x.kd=.row n):∃g,(∀k,β x.id k↔k=g)∧sl a x.slot=.slice (some ⟨g,0,none⟩) n n∧BlkOk (own c V L β) c L a w x g:=by
 obtain⟨g,h1,h2,h3⟩:=(Zt (by rw[hk]; rfl)).1 (hI.var x hx (hd.live ho))
 rw[hk]at h2
 exact⟨g,h1,h2,h3⟩
theorem Vn {T E:TypeId} {sz n:Nat} {ag:Bool} {p0:Qm} {zv:Value} {z:List Value} {yv:Vr} (k:Nat) (hk:V[k]?=some yv) (hb:yv.born=some i) (hst:((yv.st.all fun q=>(ms.getD q.1 0).testBit i)&&V.all fun y=>y.dead != some i)=true) (hno:(G.all fun e=>e.tag != some i)=true) (hal:(A.all fun p=>p.var != yv.id||p.tag.any fun j=>(ms.getD j 0).testBit i)=true)
  (hkd:yv.kd=.row n) (hT:yv.T=E) (hyn:yv.n=n*sz) (hag:yv.agg=true) (hc0:yv.c0=pv (Z4 sz ag n fun _=>p0)) (h1:Has ms G i x (pI n)) (h2:Has ms G i y (pI n)) (ht:P.underlying T=some (.slice E)) (hi:(P.info? E).map (fun i=>(i.zero,i.size,decide (i.bytes≤4096)))=some (some zv,sz,true)) (hzc:zv.cells=z.toArray) (hzl:z.length=sz) (hs:0<sz) (hzu:∀u∈z,Yu u) (hit:∀w,p0 w (Xj ag z)) (hn:n≤1000000):
  X2 P ops ms c V A G i ⟨some d,.makeSlice T x y,ty,pos,aft,none⟩:=by
 refine Ku (fun L β a w hI hd hwf=>?_) rfl
 obtain⟨ti,h3,hzz⟩:=Option.map_eq_some_iff.1 hi
 simp only[Prod.mk.injEq,decide_eq_true_eq]at hzz
 obtain⟨hz,hsz,hby⟩:=hzz
 have ex:a.eval x=.int .i64 n:=(h1.spec hI hd).out
 have ey:a.eval y=.int .i64 n:=(h2.spec hI hd).out
 have hbytes:(ti.bytes:Int)*(n:Int)≤281474976710656:=by
  have:ti.bytes*n≤4096*1000000:=Nat.mul_le_mul hby hn
  have:((ti.bytes*n:Nat):Int)≤4096000000:=by omega
  rw[Int.natCast_mul]at this
  omega
 have hrun:=run_make (P:=P) w T E ti zv ht h3 hz .i64 .i64 (n:Int) (n:Int) (by omega) (Int.le_refl _) hbytes (by omega)
 rw[hsz,hzc,Int.toNat_natCast]at hrun
 have hcell:madeCells z.toArray (n*sz)=((madeCells z.toArray (n*sz)).toList).toArray:=by simp
 rw[hcell]at hrun
 have hr:(execOp a.eval ⟨some d,.makeSlice T x y,ty,pos,aft,none⟩).run P w=.ok (.value (.slice (some ⟨w.heap.size,0,none⟩) n n)) (w.alloc (.cells ((madeCells z.toArray (n*sz)).toList).toArray E)):=by
  show(do pure (Next.value (← Instr.makeSlice T (a.eval x) (a.eval y)))).run P w=_
  rw[ex,ey,Sem.run_bind,hrun]
  rfl
 rw[Bool.and_eq_true]at hst
 refine Jp hr ?_
 rw[← hT]
 have hlen:((madeCells z.toArray (n*sz)).toList).length=n*sz:=by
  rw[Array.length_toList]
  simp[madeCells]
 have:=hI.bornAt hd hwf (List.mem_of_getElem? hk) hb (by rw[hkd]; rfl) hst.1 hst.2 (hlen.trans hyn.symm) (fun v hv=>by
  obtain⟨q,hq⟩:=List.mem_iff_getElem?.1 hv
  rw[Array.getElem?_toList]at hq
  simp only[madeCells,Array.getElem?_map,Option.map_eq_some_iff]at hq
  obtain⟨q',_,rfl⟩:=hq
  have hlt:q'%z.toArray.size<z.toArray.size:=Nat.mod_lt _ (by simp; omega)
  rw[getElem!_pos z.toArray _ hlt]
  exact hzu _ (by simp)) (by
  rw[hc0,hag]
  exact fun w' _=>⟨_,rfl,hlen,fun j hj=>by rw[made_seg hzl hj]; exact hit w'⟩) rfl hno hal rfl rfl
 rwa [hkd]at this
theorem Inv.openRow (h:Inv c V A G Qi a w) (k:Nat) {x:Vr} {n:Nat} (hk:V[k]?=some x) (hb:live Qi x=true) (hkd:x.kd=.row n):∃g,Inv c V A (⟨none,none,x.slot,Qs (.slice (some ⟨g,0,none⟩) n n)⟩::G) Qi a w:=by
 obtain⟨β,h⟩:=h
 obtain⟨g,_,h2,_⟩:=(Zt (by rw[hkd]; rfl)).1 (h.var x (List.mem_of_getElem? hk) hb)
 refine⟨g,β,h.size,h.defers,h.below,h.old,h.var,h.apart,h.al,fun e he ho hf=>?_⟩
 rcases List.mem_cons.1 he with rfl|he
 ·refine fun w' _=>?_
  show sl a x.slot=_
  rw[h2,hkd]
  rfl
 ·exact h.ent e he ho hf
theorem hdr_block {g g' n:Nat} (h:(Value.slice (some ⟨g,0,none⟩) n n)=.slice (some ⟨g',0,none⟩) n n):g=g':=by
 injection h with h
 injection h with h
 injection h
theorem op_loadC {T:TypeId} {sz n q g off:Nat} {ag:Bool} {f:Nat→Qm} {v:Vr} (k:Nat) (hk:V[k]?=some v) (ho:Z2 ms i v=true) (hkd:v.kd=.row n) (hst:(v.st.all fun q=>(ms.getD i 0).testBit q.1||(ms.getD q.1 0).testBit i)=true) (hag:v.agg=true)
  (hg:Has ms G i (.tmp v.slot) (Qs (.slice (some ⟨g,0,none⟩) n n))) (hx:Has ms G i x (Qs (.pointer (some ⟨g,off,none⟩)))) (hoff:off=q*sz) (hq:q<n) (ht:Ty P T ag sz) (hc:cont (fun j=>(ms.getD i 0).testBit j) v.c0 v.st=pv (Z4 sz ag n f)) (hp:Post G i (f q)):
  X2 P ops ms c V A G i ⟨some d,.load T x,ty,pos,aft,none⟩:=
 Wa rfl rfl rfl (.inl rfl) hp fun L β a w hI hd=>by
  obtain⟨g',_,hs,hvo⟩:=row_var hI hd (List.mem_of_getElem? hk) ho hkd
  have hs':sl a v.slot=.slice (some ⟨g,0,none⟩) n n:=(hg.spec hI hd).out
  obtain rfl:=hdr_block (hs.symm.trans hs')
  obtain⟨cs,h1,h2,h3,h4⟩:=hvo.held
  rw[Qb7 hd hst,hc]at h4
  have e:a.eval x=.pointer (some ⟨g',off,none⟩):=(hx.spec hI hd).out
  have h5:=h4.out
  have hw:Xj v.agg cs=.agg cs.toArray:=by rw[hag]; rfl
  have same:∀{cs':List Value},(Value.agg cs.toArray)=.agg cs'.toArray→cs'=cs:=fun h=>by
   injection h with h
   exact(List.toArray_inj h).symm
  have hlen:cs.length=n*sz:=by
   rw[hw]at h5
   obtain⟨cs',e1,e2,_⟩:=h5
   rw[same e1]at e2
   exact e2
  have hle:q*sz+sz≤n*sz:=by
   have:=Nat.mul_le_mul_right sz hq
   rw[Nat.succ_mul]at this
   exact this
  refine⟨Xj ag ((cs.drop off).take sz),w,?_,Below.refl _ _,h4.imp fun w' h'=>?_⟩
  ·show(do pure (Next.value (← Instr.loadAt T (a.eval x)))).run P w=_
   rw[e]
   have:=W3 (P:=P) (w:=w) (b:=g') (off:=off) ht (cs:=(cs.drop off).take sz) (Ww h1 off sz) (by simp; omega)
   simp only[Sem.run_bind,this,Result.andThen_ok,Sem.run_pure]
  ·have h':Z4 sz ag n f w' (Xj v.agg cs):=h'
   rw[hw]at h'
   obtain⟨cs',e1,_,e3⟩:=h'
   rw[same e1]at e3
   rw[hoff]
   exact e3 q hq
theorem Qaa {T:TypeId} {sz n q g off:Nat} {ag:Bool} {f:Nat→Qm} {p:Qm} {v:Vr} (k:Nat) (hk:V[k]?=some v) (ho:Z2 ms i v=true) (hkd:v.kd=.row n) (hst:(v.st.all fun q=>q.1==i||((ms.getD i 0).testBit q.1||(ms.getD q.1 0).testBit i))=true) (hag:v.agg=true) (hvn:v.n=n*sz)
  (m:Nat) (hm:v.st[m]?=some (i,pv (Z4 sz ag n (setP f q p)))) (hr:((v.st.drop (m+1)).all fun r=>(ms.getD r.1 0).testBit i)=true) (hoth:(V.all fun y=>y.id==v.id||y.st.all fun q=>q.1 != i)=true)
  (hg:Has ms G i (.tmp v.slot) (Qs (.slice (some ⟨g,0,none⟩) n n))) (hx:Has ms G i x (Qs (.pointer (some ⟨g,off,none⟩)))) (hoff:off=q*sz) (hq:q<n) (ht:Ty P T ag sz) (hc:cont (fun j=>(ms.getD i 0).testBit j) v.c0 v.st=pv (Z4 sz ag n f)) (h:Has ms G i y p) (hf:Jj sz ag p):
  X2 P ops ms c V A G i ⟨none,.store T x y,ty,pos,aft,none⟩:=by
 refine Ku (fun L β a w hI hd hwf=>?_) rfl
 have hv:=List.mem_of_getElem? hk
 obtain⟨g',hgk,hs,hvo⟩:=row_var hI hd hv ho hkd
 have hs':sl a v.slot=.slice (some ⟨g,0,none⟩) n n:=(hg.spec hI hd).out
 obtain rfl:=hdr_block (hs.symm.trans hs')
 obtain⟨cs,h1,h2,h3,h4⟩:=hvo.held
 have hst':cont L v.c0 v.st=cont (fun j=>(ms.getD i 0).testBit j) v.c0 v.st:=by
  rw[List.all_eq_true]at hst
  refine Qal fun r hr'=>?_
  have:=hst r hr'
  simp only[Bool.or_eq_true,beq_iff_eq]at this
  rcases this with h5|h5|h5
  ·rw[h5,hd.no,hd.irrefl]
  ·rw[hd.before _ h5,h5]
  ·have h6:=hd.behind _ h5
   rw[h6]
   cases h7:(ms.getD i 0).testBit r.1 with
   |false=>rfl
   |true=>rw[hd.before _ h7]at h6; cases h6
 rw[hst',hc]at h4
 have hp:=h.spec hI hd
 obtain⟨ds,e,hl,hcells,hu⟩:=hf w _ hp.out
 have e0:a.eval x=.pointer (some ⟨g',off,none⟩):=(hx.spec hI hd).out
 have hlen:cs.length=n*sz:=h2.trans hvn
 have hle:q*sz+sz≤n*sz:=by
  have:=Nat.mul_le_mul_right sz hq
  rw[Nat.succ_mul]at this
  exact this
 have hr':(execOp a.eval ⟨none,.store T x y,ty,pos,aft,none⟩).run P w=.ok .skip (w.setRow g' (cs.take off++ds++cs.drop (off+sz)).toArray):=by
  show(do Instr.storeAt T (a.eval x) (a.eval y); pure Next.skip).run P w=_
  rw[e0]
  have:=Qc5 (P:=P) (off:=off) ht h1 hcells hl (by omega) (fun u hu'=>(hu u hu').2)
  simp only[Sem.run_bind,this,Result.andThen_ok,Sem.run_pure]
 unfold Does
 rw[hr']
 refine hI.stored hwf rfl hv (hd.live ho) (by rw[hkd]; rfl) rfl hgk h1 (by simp; omega) (fun u hu'=>?_) ?_ hoth _
 ·simp only[List.mem_append]at hu'
  rcases hu' with(h5|h5)|h5
  ·exact h3 u (List.mem_of_mem_take h5)
  ·exact(hu u h5).1
  ·exact h3 u (List.mem_of_mem_drop h5)
 ·rw[Qe3 m hm hd hr]
  intro w' he
  have h5:Z4 sz ag n f w' (Xj v.agg cs):=h4 w' he
  have h6:p w' (Xj ag ds):=by rw[← e]; exact hp w' he
  have hw:∀l:List Value,Xj v.agg l=.agg l.toArray:=fun l=>by rw[hag]; rfl
  rw[hw]at h5
  show Z4 sz ag n (setP f q p) w' (Xj v.agg _)
  rw[hw]
  obtain⟨cs',e1,_,e3⟩:=h5
  injection e1 with e1
  obtain rfl:=List.toArray_inj e1
  refine⟨_,rfl,by simp; omega,fun j hj=>?_⟩
  rw[hoff,seg_set (n:=n) (by omega) hq hl hj]
  unfold setP
  split
  ·exact h6
  ·exact e3 j hj
theorem InvB.rowHanded (hI:InvB c V A G L β a w) (hd:Det ms i L) (hwf:WfAt c.N ops V A G i o) {xv yv:Vr} {n:Nat} {C:Zx} (hx:xv∈V) (ho:Z2 ms i xv=true) (hkd:xv.kd=.row n) (hdead:xv.dead=some i) (hst:(xv.st.all fun q=>(ms.getD i 0).testBit q.1||(ms.getD q.1 0).testBit i)=true) (hc:cont (fun j=>(ms.getD i 0).testBit j) xv.c0 xv.st=C)
  (hy:yv∈V) (hb:yv.born=some i) (hkd2:yv.kd=.row n) (hT:yv.T=xv.T) (hn:yv.n=xv.n) (hag:yv.agg=xv.agg) (hc0:yv.c0=C) (hs0:yv.st=[]) (hno:(G.all fun e=>e.tag != some i)=true) (hal:(A.all fun p=>p.var != yv.id||p.tag.any fun j=>(ms.getD j 0).testBit i)=true) (hsto:Ka o.op=false) (hna:Wo o.op=false):Inv c V A G (Yw L i) (a.put o.dst (sl a xv.slot)) w:=by
 have hlx:=hd.live ho
 obtain⟨g,h1,h2,h3⟩:=row_var hI hd hx ho hkd
 have hdst:=hwf.v2 yv hy hb
 have only:∀z,z∈V→live L z=true→z.dead≠some i→z.id≠xv.id:=fun z hz _ hdz e=>by
  have:=hwf.vu z xv hz hx e
  subst this
  exact hdz hdead
 refine hI.remake hd hwf hy hb hsto hna hal (B':=β xv.id) ⟨rfl,rfl,rfl,Nat.le_refl _⟩ (fun _ _ _=>rfl) (fun z hz hl hdz k hk=>⟨rfl,fun e=>hI.apart z xv k hz hx hl hlx (only z hz hl hdz) hk e⟩) (Ext.refl _ _) (fun _ _ _ _=>Ext.refl _ _) (fun k j _ hk _=>.inr ⟨xv,hx,hlx,hk,by unfold Vr.lo; rw[hkd]; exact Nat.zero_le _⟩) (fun β' hβ' hown _=>?_) (fun β' _ _ _ e he ht'=>?_)
 ·refine(Zt (by rw[hkd2]; rfl)).2 ⟨g,fun k=>by rw[hβ']; exact h1 k,by rw[hdst,Wc (by rw[hI.size]; exact hwf.sz _ hdst),h2,hkd2]; rfl,?_⟩
  obtain⟨cs,k1,k2,k3,k4⟩:=h3.held
  refine⟨h3.new,cs,by rw[hT]; exact k1,by rw[hn]; exact k2,k3,?_⟩
  rw[Qb7 hd hst,hc]at k4
  rw[hs0,hc0,hag]
  exact k4.sub hown
 ·have:=List.all_eq_true.1 hno e he
  rw[ht']at this
  simp at this
theorem Qas {n s:Nat} {xv yv:Vr} {C:Zx} (k:Nat) (hk:V[k]?=some xv) (hsl:xv.slot=s) (ho:Z2 ms i xv=true) (hkd:xv.kd=.row n) (hdead:xv.dead=some i) (hst:(xv.st.all fun q=>(ms.getD i 0).testBit q.1||(ms.getD q.1 0).testBit i)=true) (hc:cont (fun j=>(ms.getD i 0).testBit j) xv.c0 xv.st=C)
  (k2:Nat) (hk2:V[k2]?=some yv) (hb:yv.born=some i) (hkd2:yv.kd=.row n) (hT:yv.T=xv.T) (hn:yv.n=xv.n) (hag:yv.agg=xv.agg) (hc0:yv.c0=C) (hs0:yv.st=[]) (hno:(G.all fun e=>e.tag != some i)=true) (hal:(A.all fun p=>p.var != yv.id||p.tag.any fun j=>(ms.getD j 0).testBit i)=true):
  X2 P ops ms c V A G i ⟨some d,.assign (.tmp s),ty,pos,aft,none⟩:=
 Ku (fun _ _ a w hI hd hwf=>by
  subst hsl
  exact Jp (v:=sl a xv.slot) (w':=w) rfl (hI.rowHanded hd hwf (List.mem_of_getElem? hk) ho hkd hdead hst hc (List.mem_of_getElem? hk2) hb hkd2 hT hn hag hc0 hs0 hno hal rfl rfl)) rfl
theorem Inv.restRow {id s n0 n m k0:Nat} {T:TypeId} {sz:Nat} {ag:Bool} {f f':Nat→Qm} (h:Inv c V [] G Qi a w) (hk:V[n0]?=some ⟨id,s,none,none,.row n,T,m,true,pv (Z4 sz ag n f),[]⟩) (hu:((V.eraseIdx n0).all fun y=>y.id != id)=true) (hn:n≤1000000) (hf:∀i,i<n→∀w v,f i w v→f' i w v):Inv c (V.eraseIdx n0) [] (⟨none,none,s,Qj sz ag n f'⟩::G.eraseIdx k0) Qi a w:=by
 obtain⟨β,h⟩:=h
 have hx:=List.mem_of_getElem? hk
 have hsub:∀y,y∈V.eraseIdx n0→y∈V∧y.id≠id:=fun y hy=>⟨List.mem_of_mem_eraseIdx hy,by
  have:=List.all_eq_true.1 hu y hy
  simpa using this⟩
 obtain⟨g,h1,h2,h3⟩:=(Zt (by rfl)).1 (h.var _ hx rfl)
 have h1:∀k,β id k↔k=g:=h1
 have h2:sl a s=.slice (some ⟨g,0,none⟩) n n:=h2
 obtain⟨cs,k1,k2,k3,k4⟩:=h3.held
 have k4:Box (own c V Qi β) (fun w=>Z4 sz ag n f w (.agg cs.toArray)) w:=k4
 have hnew:mine c g:=h3.new
 have hgl:g<w.heap.size:=by
  rcases Nat.lt_or_ge g w.heap.size with h'|h'
  ·exact h'
  ·rw[Array.getElem?_eq_none h']at k1; cases k1
 have eo:∀k o,own c (V.eraseIdx n0) Qi β k o→own c V Qi β k o∧k≠g:=by
  rintro k o (hM|⟨y,hy,q1,q2,q3⟩)
  ·refine⟨.inl hM,fun hb=>?_⟩
   have:=(h.old k o hM).1
   rw[hb]at this
   exact hnew.elim (fun h'=>absurd this.1 (Nat.not_lt.2 h')) (fun h'=>this.2 h')
  ·obtain⟨hy,hid⟩:=hsub y hy
   exact⟨.inr ⟨y,hy,q1,q2,q3⟩,fun hb=>h.apart y _ k hy hx q1 rfl hid q2 ((h1 k).2 hb)⟩
 refine⟨β,h.size,h.defers,h.below,h.old,fun y hy hl=>(h.var y (hsub y hy).1 hl).keep rfl rfl (fun _ _=>rfl) (Nat.le_refl _) (fun F hF=>hF.sub fun k o _ hh=>(eo k o hh).1) (fun F hF=>hF.sub fun k o _ hh=>⟨(eo k o hh.1).1,hh.2⟩) rfl,fun y z g hy hz=>h.apart y z g (hsub y hy).1 (hsub z hz).1,(fun p hp=>by cases hp),fun e he ho hf'=>?_⟩
 rcases List.mem_cons.1 he with rfl|he
 ·intro w' hw'
  show Qj sz ag n f' w' (sl a s)
  rw[h2]
  obtain⟨cs',e1,e2,e3⟩:=k4 w' (hw'.mono fun k o _ hh=>(eo k o hh).1)
  injection e1 with e1
  obtain rfl:=List.toArray_inj e1
  have hb:w'.heap[g]?=some (.cells cs.toArray T (0,0)):=(hw'.block g hgl fun o hh=>(eo g o hh).2 rfl).trans k1
  refine⟨_,_,rfl,Nat.le_refl _,by unfold maxLen; omega,fun _=>⟨g,0,rfl,fun q hq=>⟨(cs.drop (q*sz)).take sz,?_,fun j v hj=>?_,hf q hq _ _ (e3 q hq)⟩⟩⟩
  ·have:q*sz+sz≤n*sz:=by
    have:=Nat.mul_le_mul_right sz hq
    rw[Nat.succ_mul]at this
    exact this
   rw[List.length_take,List.length_drop]
   omega
  ·rw[Nat.zero_add]
   exact Ww hb _ _ j v hj
 ·exact(h.ent e (List.mem_of_mem_eraseIdx he) ho hf').sub fun k o _ hh=>(eo k o hh).1
end
theorem pRats_len {l:List Rat} {n:Nat} (h:l.length=n):Qd l=Qj 3 true n fun i=>Qq (l.getD i 0):=by
 subst h
 rfl
end Wx

namespace Wx
open Go Go.RowKit

def appG (H:List Bk) (b sz:Nat) (ag:Bool) (items:List It):List Bk:=⟨b,sz,ag,items⟩::H.filter fun e=>e.b != b
theorem appG_mem {H:List Bk} {b sz:Nat} {ag:Bool} {items:List It}:(⟨b,sz,ag,items⟩:Bk)∈appG H b sz ag items:=List.mem_cons_self ..
theorem Qbu {H:List Bk} {b sz:Nat} {ag:Bool} {items:List It} {e:Bk} (he:e∈H) (hb:e.b≠b):e∈appG H b sz ag items:=List.mem_cons_of_mem _ (List.mem_filter.2 ⟨he,by simpa using hb⟩)
theorem HpOk.appG {B:Nat→Prop} {M:Nat→Nat→Prop} {w w':World} {H:List Bk} {b sz:Nat} {ag:Bool} {items:List It} (h:HpOk B w H) (hM:Mid M w) (he:Ext M w w') (hb:∀k,k<w.heap.size→k≠b→w'.heap[k]?=w.heap[k]?) (hn:(⟨b,sz,ag,items⟩:Bk).ok w'):HpOk (fun k=>B k∨k=b) w' (Wx.appG H b sz ag items):=by
 obtain⟨h1,h2,h3⟩:=h
 refine⟨fun k=>⟨?_,?_⟩,List.pairwise_cons.2 ⟨fun e hm=>?_,h2.filter _⟩,fun e hm=>?_⟩
 ·rintro(hk|rfl)
  ·obtain⟨e,hm,rfl⟩:=(h1 k).1 hk
   by_cases hb':e.b=b
   ·exact⟨_,appG_mem,hb'.symm⟩
   ·exact⟨e,Qbu hm hb',rfl⟩
  ·exact⟨_,appG_mem,rfl⟩
 ·rintro⟨e,hm,rfl⟩
  rcases List.mem_cons.1 hm with rfl|hm
  ·exact .inr rfl
  ·exact .inl ((h1 _).2 ⟨e,(List.mem_filter.1 hm).1,rfl⟩)
 ·have:=(List.mem_filter.1 hm).2
  exact fun e'=>by rw[← e']at this; simp at this
 ·rcases List.mem_cons.1 hm with rfl|hm
  ·exact hn
  ·have hm':=List.mem_filter.1 hm
   exact Bk.ok_keep (h3 e hm'.1) hM he (hb _ (Bk.ok_lt (h3 e hm'.1)) (by simpa using hm'.2))
def NewOk (H:List Bk) (n:Nat) (r:RowL):Prop:=r.n=n∧r.cap=n∧n≤1000000∧∀e,e∈H→e.b≠r.b
def pNew (H:List Bk) (sz:Nat) (ag:Bool) (n:Nat) (it:It):Zx:=fun B w v=>∃r:RowL,NewOk H n r∧v=r.hdr∧HpOk B w (appG H r.b sz ag (List.replicate n it))
section
variable {P:Program} {ops:Array Oper} {ms:List Nat} {c:Cfg} {V:List Vr} {A:List Al} {G:List Ent} {i:Nat} {L:Nat→Bool} {β:Nat→Nat→Prop} {a:Act} {w:World} {o:Oper}
variable {d:Nat} {x y z:Operand} {ty:TypeId} {pos:String} {aft:Array Edge}
theorem op_makeSliceG {T E:TypeId} {sz n:Nat} {ag:Bool} {it:It} {zv:Value} {z:List Value} {v1 yv:Vr} {H:List Bk} (k:Nat) (hk:V[k]?=some v1) (ho:Z2 ms i v1=true) (hkd:v1.kd=.obj) (hdead:v1.dead=some i) (hst:(v1.st.all fun q=>(q.1==i||(ms.getD i 0).testBit q.1)||(ms.getD q.1 0).testBit i)=true)
  (hc:cont (fun j=>(ms.getD i 0).testBit j) v1.c0 v1.st=Kl H) (k2:Nat) (hk2:V[k2]?=some yv) (hb:yv.born=some i) (hkd2:yv.kd=.obj) (hc0:yv.c0=pNew H sz ag n it) (hs0:yv.st=[]) (hal:(A.all fun p=>p.var != yv.id||p.tag.any fun j=>(ms.getD j 0).testBit i)=true)
  (h1:Has ms G i x (pI n)) (h2:Has ms G i y (pI n)) (ht:P.underlying T=some (.slice E)) (hi:(P.info? E).map (fun i=>(i.zero,i.size,decide (i.bytes≤4096)))=some (some zv,sz,true)) (hzc:zv.cells=z.toArray) (hzl:z.length=sz) (hs:0<sz) (hzu:∀u∈z,Yu u) (hit:∀w,it.p w (Xj ag z)) (hn:n≤1000000) (hp:Post G i Xx):
  X2 P ops ms c V A G i ⟨some d,.makeSlice T x y,ty,pos,aft,none⟩:=by
 refine Ku (fun L β a w hI hd hwf=>?_) rfl
 have hx:=List.mem_of_getElem? hk
 have hy:=List.mem_of_getElem? hk2
 have hlx:=hd.live ho
 have hO:=obj_at hI hd hx ho hkd
 have hH:HpOk (β v1.id) w H:=by
  have:=hO.2.out
  rw[Qch hd hst,hc]at this
  exact this
 obtain⟨ti,h3,hzz⟩:=Option.map_eq_some_iff.1 hi
 simp only[Prod.mk.injEq,decide_eq_true_eq]at hzz
 obtain⟨hz,hsz,hby⟩:=hzz
 have ex:a.eval x=.int .i64 n:=(h1.spec hI hd).out
 have ey:a.eval y=.int .i64 n:=(h2.spec hI hd).out
 have hbytes:(ti.bytes:Int)*(n:Int)≤281474976710656:=by
  have:ti.bytes*n≤4096*1000000:=Nat.mul_le_mul hby hn
  have:((ti.bytes*n:Nat):Int)≤4096000000:=by omega
  rw[Int.natCast_mul]at this
  omega
 have hrun:=run_make (P:=P) w T E ti zv ht h3 hz .i64 .i64 (n:Int) (n:Int) (by omega) (Int.le_refl _) hbytes (by omega)
 rw[hsz,hzc,Int.toNat_natCast]at hrun
 have hcell:madeCells z.toArray (n*sz)=((madeCells z.toArray (n*sz)).toList).toArray:=by simp
 rw[hcell]at hrun
 have hb0:Below w.heap.size w (w.alloc (.cells ((madeCells z.toArray (n*sz)).toList).toArray E)):=Below.alloc (Below.refl _ _) (Nat.le_refl _) _
 have only:∀z,z∈V→live L z=true→z.dead≠some i→z.id≠v1.id:=fun z hz _ hdz e=>by
  have:=hwf.vu z v1 hz hx e
  subst this
  exact hdz hdead
 have own1:∀k j,β v1.id k→own c V L β k j:=fun k j hk=>.inr ⟨v1,hx,hlx,hk,by unfold Vr.lo; rw[hkd]; exact Nat.zero_le _⟩
 have hnew:(⟨w.heap.size,sz,ag,List.replicate n it⟩:Bk).ok (w.alloc (.cells ((madeCells z.toArray (n*sz)).toList).toArray E)):=by
  refine⟨_,E,heap_alloc_new w _,?_,fun v hv=>?_,fun q it' hq=>?_⟩
  ·show(List.replicate n it).length*sz≤_
   rw[List.length_replicate,Array.length_toList]
   simp[madeCells]
  ·obtain⟨q,hq⟩:=List.mem_iff_getElem?.1 hv
   rw[Array.getElem?_toList]at hq
   simp only[madeCells,Array.getElem?_map,Option.map_eq_some_iff]at hq
   obtain⟨q',_,rfl⟩:=hq
   have hlt:q'%z.toArray.size<z.toArray.size:=Nat.mod_lt _ (by simp; omega)
   rw[getElem!_pos z.toArray _ hlt]
   exact hzu _ (by simp)
  ·have hq:(List.replicate n it)[q]?=some it':=hq
   rw[List.getElem?_replicate]at hq
   split at hq
   ·rename_i hqn
    injection hq with hq
    subst hq
    show it.p _ (Xj ag (((madeCells z.toArray (n*sz)).toList.drop (q*sz)).take sz))
    rw[made_seg hzl hqn]
    exact hit _
   ·cases hq
 have hHn:=hH.appG (Zd hI) (Ext.of_below hb0) (fun k hk _=>hb0.block k hk) hnew
 refine Jp (v:=.slice (some ⟨w.heap.size,0,none⟩) n n) (w':=w.alloc (.cells ((madeCells z.toArray (n*sz)).toList).toArray E)) ?_ ?_
 ·show(do pure (Next.value (← Instr.makeSlice T (a.eval x) (a.eval y)))).run P w=_
  rw[ex,ey,Sem.run_bind,hrun]
  rfl
 ·refine hI.remakeO hd hwf hy hb hkd2 rfl rfl hal (B':=fun k=>β v1.id k∨k=w.heap.size) ⟨hb0.os,hb0.tape,hb0.output,hb0.size⟩ (fun k hk _=>hb0.block k (Nat.lt_of_lt_of_le hk hI.below.size)) (fun z hz hl hdz k hk=>⟨hb0.block k (Z8 hI hz hl hk),fun h=>h.elim (fun h=>hI.apart z v1 k hz hx hl hlx (only z hz hl hdz) hk h) fun e=>absurd e (Nat.ne_of_lt (Z8 hI hz hl hk))⟩) (Ext.of_below hb0) (fun z hz hl _=>Ext.of_below hb0) (fun k j hk hB=>hB.elim (own1 k j) fun e=>absurd e (Nat.ne_of_lt hk)) (fun k hB=>hB.elim (fun h=>(hO.1 k h).1) fun e=>.inl (by rw[e]; exact hI.below.size)) hHn hs0 (fun w'' h=>by
   rw[hc0]
   exact⟨⟨w.heap.size,n,n⟩,⟨rfl,rfl,hn,fun e he=>Nat.ne_of_lt (Bk.ok_lt (hH.2.2 e he))⟩,rfl,h⟩) (fun e he ht' w''=>hp.spec hwf he ht' w'' _ trivial)
theorem Inv.openNew {H:List Bk} {sz n:Nat} {ag:Bool} {it:It} {id s:Nat} (h:Inv c V [] G Qi a w) (n0:Nat) (hk:V[n0]?=some ⟨id,s,none,none,.obj,0,0,false,pNew H sz ag n it,[]⟩) (hu:(V.filter fun y=>y.id==id).length=1):
  ∃l:RowL,NewOk H n l∧Inv c (V.set n0 (Y9 id s (appG H l.b sz ag (List.replicate n it)))) [] (⟨none,none,s,Qs l.hdr⟩::G) Qi a w:=h.openO (C:=NewOk H n) (hd:=RowL.hdr) (Hl:=fun r=>appG H r.b sz ag (List.replicate n it)) hk hdr_inj hu
end
def hdO:Option RowL→Value
 |none=>.slice none 0 0
 |some r=>r.hdr
def Vk (R:List (Option RowL)):List It:=R.map fun r=>Kp (hdO r)
def W1 (R:List (Option RowL)) (i:Nat):Option RowL:=R.getD i none
structure GridOk (sz:Nat) (ag:Bool) (g n:Nat) (R:List (Option RowL)) (X:Nat→List It) (H:List Bk):Prop where
 top:(⟨g,1,false,Vk R⟩:Bk)∈H
 len:R.length=n
 nil:∀i,i<n→W1 R i=none→X i=[]
 rows:∀i r,i<n→W1 R i=some r→r.n=(X i).length∧r.n≤r.cap∧r.cap≤1000000∧(⟨r.b,sz,ag,X i⟩:Bk)∈H∧r.b≠g
 apart:∀i j r q,i<n→j<n→W1 R i=some r→W1 R j=some q→i≠j→r.b≠q.b
theorem topsO_len (R:List (Option RowL)):(Vk R).length=R.length:=List.length_map ..
theorem topsO_get {R:List (Option RowL)} {i:Nat} (h:i<R.length):(Vk R)[i]?=some (Kp (hdO (W1 R i))):=by
 unfold Vk W1
 rw[List.getElem?_map,List.getD_eq_getElem?_getD,List.getElem?_eq_getElem h]
 rfl
theorem topsO_set (R:List (Option RowL)) (i:Nat) (r:RowL):(Vk R).set i (Kp r.hdr)=Vk (R.set i (some r)):=by
 unfold Vk
 rw[List.map_set]
 rfl
theorem rowO_set {R:List (Option RowL)} {i j:Nat} {r:RowL} (hi:i<R.length):W1 (R.set i (some r)) j=if j=i then some r else W1 R j:=by
 unfold W1
 rw[List.getD_eq_getElem?_getD,List.getD_eq_getElem?_getD]
 by_cases h:j=i
 ·subst h
  rw[if_pos rfl,List.getElem?_set_self hi]
  rfl
 ·rw[if_neg h,List.getElem?_set_ne (Ne.symm h)]
def setX (X:Nat→List It) (i:Nat) (l:List It):Nat→List It:=fun j=>if j=i then l else X j
theorem hset_in {H:List Bk} {b idx:Nat} {it:It} {e:Bk} (he:e∈H) (hb:e.b=b):({ e with items:=e.items.set idx it }:Bk)∈Zz H b idx it:=List.mem_map.2 ⟨e,he,if_pos hb⟩
theorem Qeh {H:List Bk} {b idx:Nat} {it:It} {e:Bk} (he:e∈H) (hb:e.b≠b):e∈Zz H b idx it:=List.mem_map.2 ⟨e,he,if_neg hb⟩
section
variable {sz:Nat} {ag:Bool} {g n:Nat} {R:List (Option RowL)} {X:Nat→List It} {H:List Bk}
theorem grid_nil (sz:Nat) (ag:Bool) (g n:Nat):GridOk sz ag g n (List.replicate n none) (fun _=>[]) [⟨g,1,false,List.replicate n (Kp (.slice none 0 0))⟩]:=by
 have e:∀i,W1 (List.replicate n none) i=none:=fun i=>by
  unfold W1
  rw[List.getD_eq_getElem?_getD,List.getElem?_replicate]
  split<;>rfl
 refine⟨?_,by simp,fun i _ _=>rfl,fun i r _ h=>(by rw[e]at h; cases h),fun i j r q _ _ h=>(by rw[e]at h; cases h)⟩
 unfold Vk
 rw[List.map_replicate]
 exact List.mem_singleton.2 rfl
theorem GridOk.at_ (h:GridOk sz ag g n R X H) {i:Nat} (hi:i<n) (h0:0<(X i).length):∃r,W1 R i=some r:=by
 cases e:W1 R i with
 |none=>rw[h.nil i hi e]at h0; exact absurd h0 (Nat.lt_irrefl 0)
 |some r=>exact⟨r,rfl⟩
theorem GridOk.off (h:GridOk sz ag g n R X H) {i:Nat} {r:RowL} (hi:i<n) (hr:W1 R i=some r):g≠r.b:=Ne.symm (h.rows i r hi hr).2.2.2.2
theorem GridOk.hd (h:GridOk sz ag g n R X H) {i:Nat} {r:RowL} (hi:i<n) (hr:W1 R i=some r):(Vk R)[i]?=some (Kp r.hdr):=by
 rw[topsO_get (by rw[h.len]; exact hi),hr]
 rfl
theorem GridOk.put (h:GridOk sz ag g n R X H) {i m:Nat} (hi:i<n) {l:List It} {r:RowL} (hl:l.length=m) (hr:NewOk H m r):GridOk sz ag g n (R.set i (some r)) (setX X i l) (Zz (appG H r.b sz ag l) g i (Kp r.hdr)):=by
 obtain⟨h1,h2,h3,h4⟩:=hr
 have eR:∀j,W1 (R.set i (some r)) j=if j=i then some r else W1 R j:=fun j=>rowO_set (by rw[h.len]; exact hi)
 have hg:g≠r.b:=h4 _ h.top
 refine⟨?_,by rw[List.length_set]; exact h.len,fun j hj hn=>?_,fun j q hj hq=>?_,fun j k q q2 hj hk hq hq2 hne=>?_⟩
 ·rw[← topsO_set]
  exact hset_in (Qbu h.top hg) rfl
 ·rw[eR]at hn
  unfold setX
  split at hn
  ·cases hn
  ·rename_i hji
   rw[if_neg hji]
   exact h.nil j hj hn
 ·rw[eR]at hq
  unfold setX
  split at hq
  ·rename_i hji
   injection hq with hq
   subst hq
   rw[if_pos hji]
   exact⟨by omega,by omega,by omega,Qeh appG_mem (Ne.symm hg),Ne.symm hg⟩
  ·rename_i hji
   rw[if_neg hji]
   obtain⟨k1,k2,k3,k4,k5⟩:=h.rows j q hj hq
   exact⟨k1,k2,k3,Qeh (Qbu k4 (h4 _ k4)) k5,k5⟩
 ·rw[eR]at hq hq2
  split at hq<;>split at hq2
  ·omega
  ·injection hq with hq
   subst hq
   exact Ne.symm (h4 _ (h.rows k q2 hk hq2).2.2.2.1)
  ·injection hq2 with hq2
   subst hq2
   exact h4 _ (h.rows j q hj hq).2.2.2.1
  ·exact h.apart j k q q2 hj hk hq hq2 hne
theorem GridOk.set (h:GridOk sz ag g n R X H) {i k:Nat} (hi:i<n) {r:RowL} (hr:W1 R i=some r) {it:It}:GridOk sz ag g n R (setX X i ((X i).set k it)) (Zz H r.b k it):=by
 have hg:=h.off hi hr
 refine⟨Qeh h.top hg,h.len,fun j hj hn=>?_,fun j q hj hq=>?_,h.apart⟩
 ·unfold setX
  split
  ·rename_i hji
   rw[hji,hr]at hn
   cases hn
  ·exact h.nil j hj hn
 ·obtain⟨k1,k2,k3,k4,k5⟩:=h.rows j q hj hq
  unfold setX
  split
  ·rename_i hji
   subst hji
   rw[hr]at hq
   injection hq with hq
   subst hq
   exact⟨by rw[List.length_set]; exact k1,k2,k3,hset_in k4 rfl,k5⟩
  ·rename_i hji
   exact⟨k1,k2,k3,Qeh k4 (h.apart j i q r hj hi hq hr hji),k5⟩
theorem GridOk.congr {X':Nat→List It} (h:GridOk sz ag g n R X H) (he:∀i,i<n→X i=X' i):GridOk sz ag g n R X' H:=
 ⟨h.top,h.len,fun i hi hn=>by rw[← he i hi]; exact h.nil i hi hn,fun i r hi hr=>by rw[← he i hi]; exact h.rows i r hi hr,h.apart⟩
theorem heap_items {B:Nat→Prop} {w:World} {H:List Bk} {b cap:Nat} {l:List It} (h:HpOk B w H) (he:(⟨b,sz,ag,l⟩:Bk)∈H) (hc:l.length≤cap) (hm:cap≤1000000):Qj sz ag l.length (fun k=>(l.getD k W4).p) w (.slice (some ⟨b,0,none⟩) l.length cap):=by
 obtain⟨cs,T,h1,h2,_,h4⟩:=h.2.2 _ he
 have h1:w.heap[b]?=some (.cells cs.toArray T (0,0)):=h1
 have h2:l.length*sz≤cs.length:=h2
 refine⟨_,_,rfl,hc,by unfold maxLen; omega,fun _=>⟨b,0,rfl,fun i hi=>⟨(cs.drop (i*sz)).take sz,?_,fun j v hj=>?_,?_⟩⟩⟩
 ·have:=Nat.mul_le_mul_right sz (show i+1≤l.length from hi)
  rw[Nat.succ_mul]at this
  rw[List.length_take,List.length_drop]
  omega
 ·rw[Nat.zero_add]
  exact Ww h1 _ _ j v hj
 ·have e:l[i]?=some (l.getD i W4):=by rw[List.getD_eq_getElem?_getD,List.getElem?_eq_getElem hi]; rfl
  exact h4 i _ e
theorem GridOk.read {cap:Nat} (h:GridOk sz ag g n R X H) (hn:n≤cap) (hm:cap≤1000000):∀B w,HpOk B w H→Qj 1 false n (fun i=>Qj sz ag (X i).length fun k=>((X i).getD k W4).p) w (.slice (some ⟨g,0,none⟩) n cap):=by
 intro B w hH
 obtain⟨cs,T,h1,h2,_,h4⟩:=hH.2.2 _ h.top
 have h1:w.heap[g]?=some (.cells cs.toArray T (0,0)):=h1
 have h2:(Vk R).length*1≤cs.length:=h2
 rw[topsO_len,h.len]at h2
 refine⟨_,_,rfl,hn,by unfold maxLen; omega,fun _=>⟨g,0,rfl,fun i hi=>⟨(cs.drop i).take 1,?_,fun j v hj=>?_,?_⟩⟩⟩
 ·rw[List.length_take,List.length_drop]
  omega
 ·rw[Nat.mul_one,Nat.zero_add]
  exact Ww h1 _ _ j v hj
 ·have h5:=h4 i _ (topsO_get (by rw[h.len]; exact hi))
  have h5:Xj false ((cs.drop (i*1)).take 1)=hdO (W1 R i):=h5
  rw[Nat.mul_one]at h5
  show Qj sz ag (X i).length (fun k=>((X i).getD k W4).p) w (Xj false ((cs.drop i).take 1))
  rw[h5]
  cases e:W1 R i with
  |none=>
   rw[h.nil i hi e]
   exact⟨none,0,rfl,Nat.le_refl _,Nat.zero_le _,fun h=>absurd h (Nat.lt_irrefl _)⟩
  |some r=>
   obtain⟨k1,k2,k3,k4,_⟩:=h.rows i r hi e
   have:=heap_items hH k4 (by omega) k3
   show Qj sz ag (X i).length _ w (.slice (some ⟨r.b,0,none⟩) r.n r.cap)
   rw[k1]
   exact this
end
structure GridL where
 g:Nat
 R:List (Option RowL)
 H:List Bk
def GridL.hd (n:Nat) (l:GridL):Value:=.slice (some ⟨l.g,0,none⟩) n n
def Zr (m:Nat) (f:Nat→Nat→It):Nat→List It:=fun i=>(List.range m).map (f i)
theorem K0 {m:Nat} {f:Nat→Nat→It} (i:Nat):(Zr m f i).length=m:=by simp[Zr]
theorem Qdm {m:Nat} {f:Nat→Nat→It} {i k:Nat} (h:k<m):(Zr m f i)[k]?=some (f i k):=by
 unfold Zr
 rw[List.getElem?_map,List.getElem?_range h]
 rfl
theorem rectX_getD {m:Nat} {f:Nat→Nat→It} {i k:Nat} (h:k<m):(Zr m f i).getD k W4=f i k:=by
 rw[List.getD_eq_getElem?_getD,Qdm h]
 rfl
def setC (f:Nat→Nat→It) (i k:Nat) (it:It):Nat→Nat→It:=fun j q=>if j=i∧q=k then it else f j q
theorem rectX_set {m:Nat} {f:Nat→Nat→It} {i k:Nat} {it:It} (j:Nat):setX (Zr m f) i ((Zr m f i).set k it) j=Zr m (setC f i k it) j:=by
 unfold setX
 by_cases hj:j=i
 ·subst hj
  rw[if_pos rfl]
  apply List.ext_getElem?
  intro q
  rcases Nat.lt_or_ge q m with hq|hq
  ·rw[Qdm hq]
   unfold setC
   by_cases hk:q=k
   ·subst hk
    rw[List.getElem?_set_self (by rw[K0]; exact hq),if_pos ⟨rfl,rfl⟩]
   ·rw[List.getElem?_set_ne (Ne.symm hk),Qdm hq,if_neg (fun h=>hk h.2)]
  ·rw[List.getElem?_eq_none (by rw[List.length_set,K0]; exact hq),List.getElem?_eq_none (by rw[K0]; exact hq)]
 ·rw[if_neg hj]
  unfold Zr setC
  apply List.map_congr_left
  intro q _
  rw[if_neg (fun h=>hj h.1)]
def partX (m k:Nat) (f:Nat→Nat→It):Nat→List It:=fun i=>if i<k then(List.range m).map (f i)else[]
def Ug (m:Nat) (f:Nat→Nat→It) (k k2:Nat):Nat→List It:=fun i=>if i<k then(List.range m).map (f i)else if i=k then(List.range m).map (fun j=>if j<k2 then f k j else W4)else[]
theorem fill_row {m:Nat} {f:Nat→Nat→It} {k k2:Nat}:Ug m f k k2 k=(List.range m).map (fun j=>if j<k2 then f k j else W4):=by
 unfold Ug
 rw[if_neg (Nat.lt_irrefl _),if_pos rfl]
theorem fill_len {m:Nat} {f:Nat→Nat→It} {k k2:Nat}:(Ug m f k k2 k).length=m:=by rw[fill_row]; simp
theorem part_zero {m:Nat} {f:Nat→Nat→It} (i:Nat):([]:List It)=partX m 0 f i:=by
 unfold partX
 rw[if_neg (Nat.not_lt_zero _)]
theorem fill_start {m:Nat} {f:Nat→Nat→It} {k:Nat} (i:Nat):setX (partX m k f) k (List.replicate m W4) i=Ug m f k 0 i:=by
 unfold setX partX Ug
 by_cases h:i=k
 ·subst h
  rw[if_pos rfl,if_neg (Nat.lt_irrefl _),if_pos rfl]
  apply List.ext_getElem?
  intro q
  rw[List.getElem?_replicate,List.getElem?_map]
  rcases Nat.lt_or_ge q m with hq|hq
  ·rw[if_pos hq,List.getElem?_range hq]; rfl
  ·rw[if_neg (by omega),List.getElem?_eq_none (by simp; omega)]; rfl
 ·rw[if_neg h,if_neg h]
theorem fill_step {m:Nat} {f:Nat→Nat→It} {k k2:Nat} (h2:k2<m) (i:Nat):setX (Ug m f k k2) k ((Ug m f k k2 k).set k2 (f k k2)) i=Ug m f k (k2+1) i:=by
 unfold setX
 by_cases h:i=k
 ·subst h
  rw[if_pos rfl,fill_row,fill_row]
  apply List.ext_getElem?
  intro q
  rcases Nat.lt_or_ge q m with hq|hq
  ·by_cases e:q=k2
   ·subst e
    rw[List.getElem?_set_self (by simp; exact hq),List.getElem?_map,List.getElem?_range hq]
    show some _=some (if q<q+1 then _ else _)
    rw[if_pos (Nat.lt_succ_self _)]
   ·rw[List.getElem?_set_ne (Ne.symm e),List.getElem?_map,List.getElem?_map,List.getElem?_range hq]
    show some (if q<k2 then _ else _)=some (if q<k2+1 then _ else _)
    by_cases e2:q<k2
    ·rw[if_pos e2,if_pos (by omega)]
    ·rw[if_neg e2,if_neg (by omega)]
  ·rw[List.getElem?_eq_none (by simp; omega),List.getElem?_eq_none (by simp; omega)]
 ·rw[if_neg h]
  unfold Ug
  rw[if_neg h,if_neg h]
theorem fill_end {m:Nat} {f:Nat→Nat→It} {k:Nat} (i:Nat):Ug m f k m i=partX m (k+1) f i:=by
 unfold Ug partX
 by_cases h:i<k
 ·rw[if_pos h,if_pos (by omega)]
 ·rw[if_neg h]
  by_cases h2:i=k
  ·subst h2
   rw[if_pos rfl,if_pos (by omega)]
   apply List.map_congr_left
   intro q hq
   rw[if_pos (List.mem_range.1 hq)]
  ·rw[if_neg h2,if_neg (by omega)]
theorem part_end {n m:Nat} {f:Nat→Nat→It} (i:Nat) (hi:i<n):partX m n f i=Zr m f i:=if_pos hi
theorem Qbf {m:Nat} {f g:Nat→Nat→It} {i:Nat} (h:∀k,k<m→f i k=g i k):Zr m f i=Zr m g i:=List.map_congr_left fun k hk=>h k (List.mem_range.1 hk)
section
variable {P:Program} {c:Cfg} {V:List Vr} {G:List Ent} {a:Act} {w:World} {d:Nat} {x y:Operand} {ty:TypeId} {pos:String} {aft:Array Edge}
theorem Qf3 {Λ:Type} {C:Λ→Prop} {hd:Λ→Value} {H:Λ→List Bk} {p1 p2:Qm} (id:Nat) {f:FuncId} {ts:Array TypeId} {ops:Array Oper} (hf:Zy P f) (h:Inv c V [] G Qi a w) (h1:Has [0] G 0 x p1) (h2:Has [0] G 0 y p2)
  (hc:∀(M:Nat→Nat→Prop) w v1 v2,Mid M w→Box M (fun w=>p1 w v1) w→Box M (fun w=>p2 w v2) w→Calls P f #[v1,v2] w (RetO C hd H w)) (hd':decide (d<c.N)=true) (hV:(V.all fun y=>(y.slot != d&&y.id != id)&&(y.born.isNone&&y.dead.isNone))=true) (hG:(G.all fun e=>e.slot != d)=true):
  DoesG P ops ⟨some d,.call ⟨.value (.func f),#[x,y],ts⟩,ty,pos,aft,none⟩ a w (fun a w=>∃l,C l∧Inv c (Y9 id d (H l)::V) [] (⟨none,none,d,Qs (hd l)⟩::G) Qi a w):=
 step_callO hf h (fun β hI=>by
  rw[show(#[x,y]:Array Operand).map a.eval=#[a.eval x,a.eval y] by simp]
  exact hc _ w _ _ (Zd hI) (h1.spec hI det0) (h2.spec hI det0)) hd' hV hG
end
end Wx
