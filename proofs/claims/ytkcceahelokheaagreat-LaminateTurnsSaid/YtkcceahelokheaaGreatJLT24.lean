import Derived.Test.YtkcceahelokheaaGreatCLTSemApp
namespace Wx
open Go Go.RowKit
section
variable {c:fT} {V:List Vr} {G:List bz} {a:Act} {w:World}
end
section
variable {P:Program} {ops:Array Oper} {ms:List Nat} {c:fT} {V:List Vr} {A:List Al} {G:List bz} {i:Nat} {d:Nat} {x y z u:Operand} {ty:TypeId} {pos:String} {aft:Array Edge}
theorem FO {ts:Array TypeId} (h1:Has ms G i x (pI 0)) (h2:Has ms G i y (pI 0)) (h3:Has ms G i z (pI 0)) (hp:Post G i (pI 0)):OpOk P ops ms c V A G i ⟨some d,.call ⟨.builtin .max,#[x,y,z],ts⟩,ty,pos,aft,none⟩:=
 Ss rfl rfl rfl rfl h1 h2 h3 hp λρ w h1 h2 h3=>⟨.int .i64 0,by
  have h1:ρ x=.int .i64 0:=h1
  have h2:ρ y=.int .i64 0:=h2
  have h3:ρ z=.int .i64 0:=h3
  show(do let d <-resolve ρ ⟨.builtin .max,#[x,y,z],ts⟩ ty; invoke d.target d.args).run P w=_
  simp only[resolve,invoke,pure_bind,builtin]
  rw[show(#[x,y,z]:Array Operand).map ρ=#[ρ x,ρ y,ρ z] by simp,h1,h2,h3]
  rfl,λ_ _ _ _=>rfl⟩
end
end Wx

namespace Wx
open Go Go.RowKit
def uT (sz:Nat) (ag:Bool) (n:Nat) (f:Nat->Pred):Pred:=λw v=>∃cs:List Value,v=.agg cs.toArray/\cs.length=n*sz/\∀i,i<n->f i w (aj ag ((cs.drop (i*sz)).take sz))
def Bf (f:Nat->Pred) (q:Nat) (p:Pred):Nat->Pred:=λi=>if i=q then p else f i
theorem yA {sz n:Nat} {ag:Bool} {f f':Nat->Pred} (h:∀i,i<n->∀w v,f i w v->f' i w v):∀w v,uT sz ag n f w v->uT sz ag n f' w v:=λw _ ⟨cs,e,hl,hf⟩=>⟨cs,e,hl,λi hi=>h i hi w _ (hf i hi)⟩
section
variable {P:Program} {ops:Array Oper} {ms:List Nat} {c:fT} {V:List Vr} {A:List Al} {G:List bz} {i:Nat} {L:Nat->Bool} {β:Nat->Nat->Prop} {a:Act} {w:World} {o:Oper}{d:Nat} {x y z:Operand} {ty:TypeId} {pos:String} {aft:Array Edge}
theorem KU (hI:bu c V A G L β a w) (hd:qc ms i L) {x:Vr} {n:Nat} (hx:x∈V) (ho:bE ms i x=true) (hk:x.kd=.row n):∃g,(∀k,β x.id k↔k=g)/\sl a x.slot=.slice (some ⟨g,0,none⟩) n n/\JF (own c V L β) c L a w x g:=by
 obtain⟨g,h1,h2,h3⟩:=(bJ (by rw[hk]; rfl)).1 (hI.var x hx (hd.live ho))
 rw[hk]at h2
 exact⟨g,h1,h2,h3⟩
variable {T E:TypeId} {sz n:Nat} {ag:Bool} {yv:Vr}
theorem A6 {p0:Pred} {zv:Value} {z:List Value} (k:Nat) (hk:V[k]?=some yv) (hb:yv.born=some i) (hst:((yv.st.all λq=>(ms.getD q.1 0).testBit i)&&V.all λy=>y.dead != some i)=true) (hno:(G.all λe=>e.tag != some i)=true) (dX:(A.all λp=>p.var != yv.id||p.tag.any λj=>(ms.getD j 0).testBit i)=true)
  (bR:yv.kd=.row n) (hT:yv.T=E) (hyn:yv.n=n*sz) (qj:yv.agg=true) (hc0:yv.c0=pv (uT sz ag n λ_=>p0)) (h1:Has ms G i x (pI n)) (h2:Has ms G i y (pI n)) (ht:P.underlying T=some (.slice E)) (hi:(P.info? E).map (λi=>(i.zero,i.size,decide (i.bytes<=4096)))=some (some zv,sz,true)) (zB:zv.cells=z.toArray) (we:z.length=sz) (hs:0<sz) (hzu:∀u∈z,iw u) (hit:∀w,p0 w (aj ag z)) (hn:n<=1000000):
  OpOk P ops ms c V A G i ⟨some d,.makeSlice T x y,ty,pos,aft,none⟩:=by
 refine gI (λL β a w hI hd hwf=>?_) rfl
 obtain⟨ti,h3,hzz⟩:=Option.map_eq_some_iff.1 hi
 simp only[Prod.mk.injEq,decide_eq_true_eq]at hzz
 obtain⟨hz,hsz,hby⟩:=hzz
 have ex:a.eval x=.int .i64 n:=(h1.spec hI hd).out
 have ey:a.eval y=.int .i64 n:=(h2.spec hI hd).out
 have hbytes:(ti.bytes:Int)*(n:Int)<=281474976710656:=by
  have:ti.bytes*n<=4096*1000000:=Nat.mul_le_mul hby hn
  have:((ti.bytes*n:Nat):Int)<=4096000000:=by omega
  rw[Int.natCast_mul]at this
  omega
 have hrun:=run_make (P:=P) w T E ti zv ht h3 hz .i64 .i64 (n:Int) (n:Int) (by omega) (Int.le_refl _) hbytes (by omega)
 rw[hsz,zB,Int.toNat_natCast]at hrun
 have hcell:madeCells z.toArray (n*sz)=((madeCells z.toArray (n*sz)).toList).toArray:=by simp
 rw[hcell]at hrun
 have hr:(execOp a.eval ⟨some d,.makeSlice T x y,ty,pos,aft,none⟩).run P w=.ok (.value (.slice (some ⟨w.heap.size,0,none⟩) n n)) (w.alloc (.cells ((madeCells z.toArray (n*sz)).toList).toArray E)):=by
  show(do pure (Next.value (<-Instr.makeSlice T (a.eval x) (a.eval y)))).run P w=_
  rw[ex,ey,Sem.run_bind,hrun]
  rfl
 rw[Bool.and_eq_true]at hst
 refine dH hr ?_
 rw[<-hT]
 have hlen:((madeCells z.toArray (n*sz)).toList).length=n*sz:=by
  rw[Array.length_toList]
  simp[madeCells]
 have:=hI.GX hd hwf (List.mem_of_getElem? hk) hb (by rw[bR]; rfl) hst.1 hst.2 (hlen.trans hyn.symm) (λv hv=>by
  obtain⟨q,hq⟩:=List.mem_iff_getElem?.1 hv
  rw[Array.getElem?_toList]at hq
  simp only[madeCells,Array.getElem?_map,Option.map_eq_some_iff]at hq
  obtain⟨q',_,rfl⟩:=hq
  have hlt:q'%z.toArray.size<z.toArray.size:=Nat.mod_lt _ (by simp; omega)
  rw[getElem!_pos z.toArray _ hlt]
  exact hzu _ (by simp)) (by
  rw[hc0,qj]
  exactλw' _=>⟨_,rfl,hlen,λj hj=>by rw[Fw we hj]; exact hit w'⟩) rfl hno dX rfl rfl
 rwa [bR]at this
theorem Inv.KF (h:Inv c V A G none_ a w) (k:Nat) {x:Vr} {n:Nat} (hk:V[k]?=some x) (hb:live none_ x=true) (bR:x.kd=.row n):∃g,Inv c V A (⟨none,none,x.slot,bg (.slice (some ⟨g,0,none⟩) n n)⟩::G) none_ a w:=by
 obtain⟨β,h⟩:=h
 obtain⟨g,_,h2,_⟩:=(bJ (by rw[bR]; rfl)).1 (h.var x (List.mem_of_getElem? hk) hb)
 refine⟨g,β,h.size,h.defers,h.below,h.old,h.var,h.apart,h.al,λe he ho hf=>?_⟩
 rcases List.mem_cons.1 he with rfl|he
 ·refineλw' _=>?_
  show sl a x.slot=_
  rw[h2,bR]
  rfl
 ·exact h.jM e he ho hf
variable {g:Nat}
theorem LP {g':Nat} (h:(Value.slice (some ⟨g,0,none⟩) n n)=.slice (some ⟨g',0,none⟩) n n):g=g':=by
 injection h with h
 injection h with h
 injection h
variable {f:Nat->Pred}
theorem MB {q off:Nat} {p:Pred} {v:Vr} (k:Nat) (hk:V[k]?=some v) (ho:bE ms i v=true) (bR:v.kd=.row n) (hst:(v.st.all λq=>q.1==i||((ms.getD i 0).testBit q.1||(ms.getD q.1 0).testBit i))=true) (qj:v.agg=true) (VK:v.n=n*sz)
  (m:Nat) (hm:v.st[m]?=some (i,pv (uT sz ag n (Bf f q p)))) (hr:((v.st.drop (m+1)).all λr=>(ms.getD r.1 0).testBit i)=true) (gg:(V.all λy=>y.id==v.id||y.st.all λq=>q.1 != i)=true)
  (hg:Has ms G i (.tmp v.slot) (bg (.slice (some ⟨g,0,none⟩) n n))) (hx:Has ms G i x (bg (.pointer (some ⟨g,off,none⟩)))) (hoff:off=q*sz) (hq:q<n) (ht:Ty P T ag sz) (hc:cont (λj=>(ms.getD i 0).testBit j) v.c0 v.st=pv (uT sz ag n f)) (h:Has ms G i y p) (hf:Fits sz ag p):
  OpOk P ops ms c V A G i ⟨none,.store T x y,ty,pos,aft,none⟩:=by
 refine gI (λL β a w hI hd hwf=>?_) rfl
 have hv:=List.mem_of_getElem? hk
 obtain⟨g',hgk,hs,RR⟩:=KU hI hd hv ho bR
 have hs':sl a v.slot=.slice (some ⟨g,0,none⟩) n n:=(hg.spec hI hd).out
 obtain rfl:=LP (hs.symm.trans hs')
 obtain⟨cs,h1,h2,h3,h4⟩:=RR.held
 have Dm:cont L v.c0 v.st=cont (λj=>(ms.getD i 0).testBit j) v.c0 v.st:=by
  rw[List.all_eq_true]at hst
  refine jU λr hr'=>?_
  have:=hst r hr'
  simp only[Bool.or_eq_true,beq_iff_eq]at this
  rcases this with h5|h5|h5
  ·rw[h5,hd.no,hd.irrefl]
  ·rw[hd.before _ h5,h5]
  ·have h6:=hd.behind _ h5
   rw[h6]
   cases h7:(ms.getD i 0).testBit r.1 with
   |false=>rfl
   |true=>rw[hd.before _ h7]at h6; cases h6
 rw[Dm,hc]at h4
 have hp:=h.spec hI hd
 obtain⟨ds,e,hl,hcells,hu⟩:=hf w _ hp.out
 have e0:a.eval x=.pointer (some ⟨g',off,none⟩):=(hx.spec hI hd).out
 have hlen:cs.length=n*sz:=h2.trans VK
 have hle:q*sz+sz<=n*sz:=by
  have:=Nat.mul_le_mul_right sz hq
  rw[Nat.succ_mul]at this
  exact this
 have hr':(execOp a.eval ⟨none,.store T x y,ty,pos,aft,none⟩).run P w=.ok .skip (w.setRow g' (cs.take off++ds++cs.drop (off+sz)).toArray):=by
  show(do Instr.storeAt T (a.eval x) (a.eval y); pure Next.skip).run P w=_
  rw[e0]
  have:=gZ (P:=P) (off:=off) ht h1 hcells hl (by omega) (λu gB=>(hu u gB).2)
  simp only[Sem.run_bind,this,Result.andThen_ok,Sem.run_pure]
 unfold Does
 rw[hr']
 refine hI.stored hwf rfl hv (hd.live ho) (by rw[bR]; rfl) rfl hgk h1 (by simp; omega) (λu gB=>?_) ?_ gg _
 ·simp only[List.mem_append]at gB
  rcases gB with(h5|h5)|h5
  ·exact h3 u (List.mem_of_mem_take h5)
  ·exact(hu u h5).1
  ·exact h3 u (List.mem_of_mem_drop h5)
 ·rw[oB m hm hd hr]
  intro w' he
  have h5:uT sz ag n f w' (aj v.agg cs):=h4 w' he
  have h6:p w' (aj ag ds):=by rw[<-e]; exact hp w' he
  have hw:∀l:List Value,aj v.agg l=.agg l.toArray:=λl=>by rw[qj]; rfl
  rw[hw]at h5
  show uT sz ag n (Bf f q p) w' (aj v.agg _)
  rw[hw]
  obtain⟨cs',e1,_,e3⟩:=h5
  injection e1 with e1
  obtain rfl:=List.toArray_inj e1
  refine⟨_,rfl,by simp; omega,λj hj=>?_⟩
  rw[hoff,KV (n:=n) (by omega) hq hl hj]
  unfold Bf
  split
  ·exact h6
  ·exact e3 j hj
theorem bu.MP (hI:bu c V A G L β a w) (hd:qc ms i L) (hwf:nR c.N ops V A G i o) {xv yv:Vr} {n:Nat} {C:Rel} (hx:xv∈V) (ho:bE ms i xv=true) (bR:xv.kd=.row n) (gb:xv.dead=some i) (hst:(xv.st.all λq=>(ms.getD i 0).testBit q.1||(ms.getD q.1 0).testBit i)=true) (hc:cont (λj=>(ms.getD i 0).testBit j) xv.c0 xv.st=C)
  (hy:yv∈V) (hb:yv.born=some i) (cW:yv.kd=.row n) (hT:yv.T=xv.T) (hn:yv.n=xv.n) (qj:yv.agg=xv.agg) (hc0:yv.c0=C) (hs0:yv.st=[]) (hno:(G.all λe=>e.tag != some i)=true) (dX:(A.all λp=>p.var != yv.id||p.tag.any λj=>(ms.getD j 0).testBit i)=true) (ac2:eU o.op=false) (LV:iY o.op=false):Inv c V A G (upd L i) (a.put o.dst (sl a xv.slot)) w:=by
 have BU:=hd.live ho
 obtain⟨g,h1,h2,h3⟩:=KU hI hd hx ho bR
 have lR:=hwf.v2 yv hy hb
 have only:∀z,z∈V->live L z=true->z.dead≠some i->z.id≠xv.id:=λz hz _ sD e=>by
  have:=hwf.vu z xv hz hx e
  subst this
  exact sD gb
 refine hI.tH hd hwf hy hb ac2 LV dX (B':=β xv.id) ⟨rfl,rfl,rfl,Nat.le_refl _⟩ (λ_ _ _=>rfl) (λz hz hl sD k hk=>⟨rfl,λe=>hI.apart z xv k hz hx hl BU (only z hz hl sD) hk e⟩) (Ext.refl _ _) (λ_ _ _ _=>Ext.refl _ _) (λk j _ hk _=>.inr ⟨xv,hx,BU,hk,by unfold Vr.lo; rw[bR]; exact Nat.zero_le _⟩) (λβ' Dr hown _=>?_) (λβ' _ _ _ e he ht'=>?_)
 ·refine(bJ (by rw[cW]; rfl)).2 ⟨g,λk=>by rw[Dr]; exact h1 k,by rw[lR,fO (by rw[hI.size]; exact hwf.sz _ lR),h2,cW]; rfl,?_⟩
  obtain⟨cs,k1,k2,k3,k4⟩:=h3.held
  refine⟨h3.new,cs,by rw[hT]; exact k1,by rw[hn]; exact k2,k3,?_⟩
  rw[uj hd hst,hc]at k4
  rw[hs0,hc0,qj]
  exact k4.sub hown
 ·have:=List.all_eq_true.1 hno e he
  rw[ht']at this
  simp at this
variable {s:Nat}
theorem IQ {xv:Vr} {C:Rel} (k:Nat) (hk:V[k]?=some xv) (qO:xv.slot=s) (ho:bE ms i xv=true) (bR:xv.kd=.row n) (gb:xv.dead=some i) (hst:(xv.st.all λq=>(ms.getD i 0).testBit q.1||(ms.getD q.1 0).testBit i)=true) (hc:cont (λj=>(ms.getD i 0).testBit j) xv.c0 xv.st=C)
  (k2:Nat) (hk2:V[k2]?=some yv) (hb:yv.born=some i) (cW:yv.kd=.row n) (hT:yv.T=xv.T) (hn:yv.n=xv.n) (qj:yv.agg=xv.agg) (hc0:yv.c0=C) (hs0:yv.st=[]) (hno:(G.all λe=>e.tag != some i)=true) (dX:(A.all λp=>p.var != yv.id||p.tag.any λj=>(ms.getD j 0).testBit i)=true):
  OpOk P ops ms c V A G i ⟨some d,.assign (.tmp s),ty,pos,aft,none⟩:=
 gI (λ_ _ a w hI hd hwf=>by
  subst qO
  exact dH (v:=sl a xv.slot) (w':=w) rfl (hI.MP hd hwf (List.mem_of_getElem? hk) ho bR gb hst hc (List.mem_of_getElem? hk2) hb cW hT hn qj hc0 hs0 hno dX rfl rfl)) rfl
variable {m:Nat}
theorem Inv.KR {id n0 k0:Nat} {f':Nat->Pred} (h:Inv c V [] G none_ a w) (hk:V[n0]?=some ⟨id,s,none,none,.row n,T,m,true,pv (uT sz ag n f),[]⟩) (hu:((V.eraseIdx n0).all λy=>y.id != id)=true) (hn:n<=1000000) (hf:∀i,i<n->∀w v,f i w v->f' i w v):Inv c (V.eraseIdx n0) [] (⟨none,none,s,aA sz ag n f'⟩::G.eraseIdx k0) none_ a w:=by
 obtain⟨β,h⟩:=h
 have hx:=List.mem_of_getElem? hk
 have hsub:∀y,y∈V.eraseIdx n0->y∈V/\y.id≠id:=λy hy=>⟨List.mem_of_mem_eraseIdx hy,by
  have:=List.all_eq_true.1 hu y hy
  simpa using this⟩
 obtain⟨g,h1,h2,h3⟩:=(bJ (by rfl)).1 (h.var _ hx rfl)
 have h1:∀k,β id k↔k=g:=h1
 have h2:sl a s=.slice (some ⟨g,0,none⟩) n n:=h2
 obtain⟨cs,k1,k2,k3,k4⟩:=h3.held
 have k4:aO (own c V none_ β) (λw=>uT sz ag n f w (.agg cs.toArray)) w:=k4
 have hnew:mine c g:=h3.new
 have Vj:g<w.heap.size:=by
  rcases Nat.lt_or_ge g w.heap.size with h'|h'
  ·exact h'
  ·rw[Array.getElem?_eq_none h']at k1; cases k1
 have eo:∀k o,own c (V.eraseIdx n0) none_ β k o->own c V none_ β k o/\k≠g:=by
  rintro k o (hM|⟨y,hy,q1,q2,q3⟩)
  ·refine⟨.inl hM,λhb=>?_⟩
   have:=(h.old k o hM).1
   rw[hb]at this
   exact hnew.elim (λh'=>absurd this.1 (Nat.not_lt.2 h')) (λh'=>this.2 h')
  ·obtain⟨hy,hid⟩:=hsub y hy
   exact⟨.inr ⟨y,hy,q1,q2,q3⟩,λhb=>h.apart y _ k hy hx q1 rfl hid q2 ((h1 k).2 hb)⟩
 refine⟨β,h.size,h.defers,h.below,h.old,λy hy hl=>(h.var y (hsub y hy).1 hl).keep rfl rfl (λ_ _=>rfl) (Nat.le_refl _) (λF hF=>hF.sub λk o _ hh=>(eo k o hh).1) (λF hF=>hF.sub λk o _ hh=>⟨(eo k o hh.1).1,hh.2⟩) rfl,λy z g hy hz=>h.apart y z g (hsub y hy).1 (hsub z hz).1,(λp hp=>by cases hp),λe he ho hf'=>?_⟩
 rcases List.mem_cons.1 he with rfl|he
 ·intro w' hw'
  show aA sz ag n f' w' (sl a s)
  rw[h2]
  obtain⟨cs',e1,e2,e3⟩:=k4 w' (hw'.mono λk o _ hh=>(eo k o hh).1)
  injection e1 with e1
  obtain rfl:=List.toArray_inj e1
  have hb:w'.heap[g]?=some (.cells cs.toArray T (0,0)):=(hw'.block g Vj λo hh=>(eo g o hh).2 rfl).trans k1
  refine⟨_,_,rfl,Nat.le_refl _,by unfold maxLen; omega,λ_=>⟨g,0,rfl,λq hq=>⟨(cs.drop (q*sz)).take sz,?_,λj v hj=>?_,hf q hq _ _ (e3 q hq)⟩⟩⟩
  ·have:q*sz+sz<=n*sz:=by
    have:=Nat.mul_le_mul_right sz hq
    rw[Nat.succ_mul]at this
    exact this
   rw[List.length_take,List.length_drop]
   omega
  ·rw[Nat.zero_add]
   exact fY hb _ _ j v hj
 ·exact(h.jM e (List.mem_of_mem_eraseIdx he) ho hf').sub λk o _ hh=>(eo k o hh).1
theorem IV (h:Has ms G i x (aA sz ag n f)) (hy:Has ms G i y (pI (m:Int))) (ht:mV P T E sz) (hm:m<=n) (hp:Post G i (aA sz ag m f)):OpOk P ops ms c V A G i ⟨some d,.slice T x none (some y) none,ty,pos,aft,none⟩:=
 cC rfl rfl rfl (.inl rfl) hp λL β a w hI hd=>by
  have k:=h.spec hI hd
  obtain⟨A',cap,ex,h1,h2,_⟩:=k.out
  have ex:a.eval x=.slice A' n cap:=ex
  have ey:a.eval y=.int .i64 m:=(hy.spec hI hd).out
  refine⟨.slice A' m cap,w,?_,Below.refl _ _,k.imp λw' ⟨A2,yS,e2,h3,h4,h5⟩=>?_⟩
  ·show(do pure (Next.value (<-Instr.sliceAt T (a.eval x) none (some (a.eval y)) none))).run P w=_
   rw[ex,ey]
   have hr:(Instr.sliceAt T (.slice A' n cap) none (some (.int .i64 m)) none).run P w=.ok (.slice A' m cap) w:=by
    have e1:(Instr.sliceBound (.int .i64 m) cap .sliceAcap).run P w=.ok m w:=by
     have:=run_sliceBound (P:=P) w .i64 (m:Int) cap .sliceAcap (by omega) (by omega)
     simpa using this
    have e3:A'.map (λq=>q.add 0)=A':=by
     cases A' with
     |none=>rfl
     |some q=>rfl
    simp only[Instr.sliceAt,Sem.run_bind,run_underlying ht.under,Result.andThen_ok,Instr.slice,Instr.sliceBounds,Sem.run_pure]
    simp only[e1,Result.andThen_ok,ht.size w,Nat.zero_mul,Nat.sub_zero,e3,ite_self,if_true]
   rw[Sem.run_bind,hr]
   rfl
  ·have e2:a.eval x=.slice A2 n yS:=e2
   rw[ex]at e2
   injection e2 with e2 _ e4
   subst e2 e4
   exact⟨A',cap,rfl,by omega,h4,λh0=>by
    obtain⟨b,o',hA,hf⟩:=h5 (by omega)
    exact⟨b,o',hA,λq hq=>hf q (by omega)⟩⟩
end
end Wx

namespace Wx
open Go Go.RowKit
abbrev Rz (i s m:Nat) (T:TypeId) (n:Nat) (p:Pred):Vr:=⟨i,s,none,none,.row m,T,n,true,pv p,[]⟩
theorem vR {V:List Vr} {i s m T n:Nat} {p q:Pred} (hq:∀w v,p w v->q w v:=by exactλ_ _ h=>h) (h:mU i V=some (Rz i s m T n p):=by exact rfl):∃r:Rel,mU (Rz i s m T n q).id V=some ⟨(Rz i s m T n q).id,(Rz i s m T n q).slot,none,none,(Rz i s m T n q).kd,(Rz i s m T n q).T,(Rz i s m T n q).n,(Rz i s m T n q).agg,r,[]⟩/\((Rz i s m T n q).born=none/\(Rz i s m T n q).dead=none/\(Rz i s m T n q).st=[])/\∀F w v,r F w v->(Rz i s m T n q).c0 F w v:=
 ⟨_,h,⟨rfl,rfl,rfl⟩,λ_ _ _ h=>hq _ _ h⟩
section
variable {P:Program} {ops:Array Oper} {ms:List Nat} {c:fT} {V:List Vr} {A:List Al} {G:List bz} {i:Nat}{d:Nat} {x y z:Operand} {ty:TypeId} {pos:String} {aft:Array Edge}{T:TypeId} {v:Vr}
theorem msC (sz n:Nat) (ag:Bool) (p0:Pred) (z:List Value) (zv:Value) (hv:AF i V=some v:=by exact rfl) (bR:v.kd=.row n:=by exact rfl) (hyn:v.n=n*sz:=by exact rfl) (qj:v.agg=true:=by exact rfl) (hc0:v.c0=pv (uT sz ag n λ_=>p0):=by exact rfl) (h1:Has ms G i x (pI n):=by exact Wx.hs) (h2:Has ms G i y (pI n):=by exact Wx.hs)
  (ht:P.underlying T=some (.slice v.T):=by kernel_rfl) (hi:(P.info? v.T).map (λi=>(i.zero,i.size,decide (i.bytes<=4096)))=some (some zv,sz,true):=by kernel_rfl) (zB:zv.cells=z.toArray:=by exact rfl) (we:z.length=sz:=by exact rfl) (hs:0<sz:=by decide) (hzu:∀u∈z,iw u:=by(intro u hu; simp only[List.mem_cons,List.not_mem_nil,or_false]at hu; repeat' (first|(subst hu; first|exact ee _ _ _|exact uL _|exactλ_=>⟨by intro h; cases h,by intro h; cases h⟩)|(rcases hu with hu|hu)))) (hit:∀w,p0 w (aj ag z):=by exactλ_=>rfl) (hn:n<=1000000:=by decide)
  (hst:((v.st.all λq=>(ms.getD q.1 0).testBit i)&&V.all λy=>y.dead != some i)=true:=by kernel_rfl) (hno:(G.all λe=>e.tag != some i)=true:=by kernel_rfl) (dX:(A.all λp=>p.var != v.id||p.tag.any λj=>(ms.getD j 0).testBit i)=true:=by kernel_rfl):
  OpOk P ops ms c V A G i ⟨some d,.makeSlice T x y,ty,pos,aft,none⟩:=by
 obtain⟨⟨k,hk⟩,hb⟩:=eY hv
 exact A6 k hk hb hst hno dX bR rfl hyn qj hc0 h1 h2 ht hi zB we hs hzu hit hn
variable {s:Nat} {yv:Vr} {n:Nat}
theorem asC {xv:Vr} {C:Rel} (hx:QH ms i s V=some xv:=by exact rfl) (hv:AF i V=some yv:=by exact rfl) (bR:xv.kd=.row n:=by exact rfl) (gb:xv.dead=some i:=by exact rfl) (hst:(xv.st.all λq=>(ms.getD i 0).testBit q.1||(ms.getD q.1 0).testBit i)=true:=by kernel_rfl) (hc:cont (λj=>(ms.getD i 0).testBit j) xv.c0 xv.st=C:=by exact rfl) (cW:yv.kd=.row n:=by exact rfl) (hT:yv.T=xv.T:=by exact rfl) (hn:yv.n=xv.n:=by exact rfl) (qj:yv.agg=xv.agg:=by exact rfl) (hc0:yv.c0=C:=by exact rfl) (hs0:yv.st=[]:=by exact rfl)
  (hno:(G.all λe=>e.tag != some i)=true:=by kernel_rfl) (dX:(A.all λp=>p.var != yv.id||p.tag.any λj=>(ms.getD j 0).testBit i)=true:=by kernel_rfl):OpOk P ops ms c V A G i ⟨some d,.assign (.tmp s),ty,pos,aft,none⟩:=by
 obtain⟨⟨k,hk⟩,qO,ho⟩:=nQ hx
 obtain⟨⟨k2,hk2⟩,hb⟩:=eY hv
 exact IQ k hk qO ho bR gb hst hc k2 hk2 hb cW hT hn qj hc0 hs0 hno dX
variable {b:Nat}
theorem iX {o' cap:Nat} (sz q:Nat) (h:Has ms G i x (bg (.slice (some ⟨b,o',none⟩) n cap)):=by exact hs) (hy:Has ms G i y (pI (q:Int)):=by exact(Wx.hs).imp (bk (by omega))) (h1:q<n:=by omega) (hp:Post G i (bg (.pointer (some ⟨b,o'+q*sz,none⟩))):=by exact pt rfl) (ht:Xo P T sz=true:=by kernel_rfl) (hA:(A.all λq=>q.tag != some i)=true:=by kernel_rfl):OpOk P ops ms c V A G i ⟨some d,.indexAddr T x y,ty,pos,aft,none⟩:=by
 obtain⟨E,hE⟩:=DY ht
 exact bt h hy hE (by omega) (by omega) hA (by rw[Int.toNat_natCast]; exact hp)
variable {sz:Nat} {ag:Bool} {f:Nat->Pred}
theorem sC {g off:Nat} {p:Pred} {r:List (Nat×Rel)} (N q:Nat) (hv:mU N V=some v:=by exact rfl) (ho:bE ms i v=true:=by exact rfl) (bR:v.kd=.row n:=by exact rfl) (hst:(v.st.all λq=>q.1==i||((ms.getD i 0).testBit q.1||(ms.getD q.1 0).testBit i))=true:=by kernel_rfl) (qj:v.agg=true:=by exact rfl) (hvs:v.slot=s:=by exact rfl)
  (hc:cont (λj=>(ms.getD i 0).testBit j) v.c0 v.st=pv (uT sz ag n f):=by exact rfl) (hg:Has ms G i (.tmp s) (bg (.slice (some ⟨g,0,none⟩) n n)):=by exact Wx.hs) (hx:Has ms G i x (bg (.pointer (some ⟨g,off,none⟩))):=by exact Wx.hs) (h:Has ms G i y p:=by exact Wx.hs) (hm:NF i v.st=some (pv (uT sz ag n (Bf f q p)),r):=by exact rfl) (hoff:off=q*sz:=by omega) (hq:q<n:=by omega) (VK:v.n=n*sz:=by exact rfl) (hf:Fits sz ag p:=by exact oK) (ht:Gu P T ag sz=true:=by kernel_rfl)
  (hr:(r.all λr=>(ms.getD r.1 0).testBit i)=true:=by kernel_rfl) (gg:(V.all λy=>y.id==v.id||y.st.all λq=>q.1 != i)=true:=by kernel_rfl):OpOk P ops ms c V A G i ⟨none,.store T x y,ty,pos,aft,none⟩:=by
 obtain⟨⟨k,hk⟩,_⟩:=fS hv
 obtain⟨m,h5,h6⟩:=ve hm
 subst hvs
 exact MB k hk ho bR hst qj VK m h5 (by rw[h6]; exact hr) gg hg hx hoff hq (aY ht) hc h hf
theorem bs0 (E:TypeId) (ht:mV P T E sz:=by exact⟨by kernel_rfl,λ_=>by kernel_rfl⟩) (hp:Post G i wI:=by exact pt rfl):OpOk P ops ms c V A G i ⟨some d,.buildSlice T 0 #[],ty,pos,aft,none⟩:=qY ht hp
variable {j:Nat} {l:List Rat}
theorem ap0 {tx:TypeId} (hv:AF i V=some yv:=by exact rfl) (h1:Has ms G i x wI:=by exact hs) (h2:Has ms G i y (FQ j n l):=by exact hs) (hp:Post G i (FQ j n l):=by exact pt rfl) (cW:yv.kd=.grow n 3:=by exact rfl) (hn:0<n:=by decide) (hmax:n<=1073741824:=by decide)
  (ht:CP P T tx yv.T 3=true:=by kernel_rfl) (dX:(A.all λp=>p.var != yv.id||p.tag.any λj=>(ms.getD j 0).testBit i)=true:=by kernel_rfl):OpOk P ops ms c V A G i ⟨some d,.call ⟨.builtin .append,#[x,y],#[T,tx]⟩,ty,pos,aft,none⟩:=by
 obtain⟨⟨k,hk⟩,hb⟩:=eY hv
 exact tB k hk hb cW rfl dX h1 h2 (jt ht) (λh=>by cases h) (λ_ _=>cE) hn hmax hp
variable {F:Rat->Pred}
theorem iW (len m q:Nat) (h:Has ms G i x (cZ sz true (pV F j l)):=by exact hs) (hy:Has ms G i y (pI (q:Int)):=by exact(Wx.hs).imp (bk (by omega))) (hq:q<len:=by omega) (hp:Post G i (cZ (m*3) true (pV F j ((l.drop (q*m)).take m))):=by exact pt rfl) (hsz:sz=len*(m*3):=by exact rfl) (ht:GN P T len (m*3)=true:=by kernel_rfl) (hA:(A.all λq=>q.tag != some i)=true:=by kernel_rfl):
  OpOk P ops ms c V A G i ⟨some d,.indexAddr T x y,ty,pos,aft,none⟩:=
 cC rfl rfl rfl (.inr hA) hp λL β a w hI hd=>by
  have hr:=h.spec hI hd
  obtain⟨b,o,cs,e,_⟩:=hr.out
  have ey:a.eval y=.int .i64 (q:Int):=(hy.spec hI hd).out
  have hle:q*(m*3)+m*3<=sz:=by
   rw[hsz]
   have:=Nat.mul_le_mul_right (m*3) hq
   rw[Nat.succ_mul]at this
   exact this
  refine⟨.pointer (some ⟨b,o+q*(m*3),none⟩),w,?_,Below.refl _ _,λw' he=>mN he hr e (λw cs hl=>zW (q*m) m (by rw[Nat.mul_assoc]) w cs hl) hle⟩
  show(do pure (Next.value (<-Instr.indexAt T (a.eval x) (a.eval y)))).run P w=_
  rw[e,ey,Sem.run_bind,gY ht (by omega) (by omega) w]
  rfl
theorem iQ (len q:Nat) (h:Has ms G i x (cZ sz true (pV F j l)):=by exact hs) (hy:Has ms G i y (pI (q:Int)):=by exact(Wx.hs).imp (bk (by omega))) (hq:q<len:=by omega) (hl:q<l.length:=by omega) (hp:Post G i (cZ 3 true (pQ F j (l.getD q 0))):=by exact pt rfl) (hsz:sz=len*3:=by exact rfl) (ht:GN P T len 3=true:=by kernel_rfl) (hA:(A.all λq=>q.tag != some i)=true:=by kernel_rfl):
  OpOk P ops ms c V A G i ⟨some d,.indexAddr T x y,ty,pos,aft,none⟩:=
 cC rfl rfl rfl (.inr hA) hp λL β a w hI hd=>by
  have hr:=h.spec hI hd
  obtain⟨b,o,cs,e,_⟩:=hr.out
  have ey:a.eval y=.int .i64 (q:Int):=(hy.spec hI hd).out
  have hle:q*3+3<=sz:=by omega
  refine⟨.pointer (some ⟨b,o+q*3,none⟩),w,?_,Below.refl _ _,λw' he=>mN he hr e (λw cs hl2=>wL q rfl hl w cs hl2) hle⟩
  show(do pure (Next.value (<-Instr.indexAt T (a.eval x) (a.eval y)))).run P w=_
  rw[e,ey,Sem.run_bind,gY ht (by omega) (by omega) w]
  rfl
theorem slH (m:Nat) (h:Has ms G i x (aA sz ag n f):=by exact hs) (hy:Has ms G i y (pI (m:Int)):=by exact hs) (hm:m<=n:=by omega) (hp:Post G i (aA sz ag m f):=by exact pt rfl) (ht:Xo P T sz=true:=by kernel_rfl):OpOk P ops ms c V A G i ⟨some d,.slice T x none (some y) none,ty,pos,aft,none⟩:=by
 obtain⟨E,hE⟩:=DY ht
 exact IV h hy hE hm hp
theorem slL (m:Nat) (h:Has ms G i x (aA sz ag n f):=by exact hs) (hy:Has ms G i y (pI (m:Int)):=by exact hs) (hm:m<n:=by omega) (hp:Post G i (aA sz ag (n-m) λk=>f (m+k)):=by exact pt rfl) (ht:Xo P T sz=true:=by kernel_rfl):OpOk P ops ms c V A G i ⟨some d,.slice T x (some y) none none,ty,pos,aft,none⟩:=by
 obtain⟨E,hE⟩:=DY ht
 exact cC rfl rfl rfl (.inl rfl) hp λL β a w hI hd=>by
  have k:=h.spec hI hd
  obtain⟨A',cap,ex,h1,h2,h3⟩:=k.out
  have ex:a.eval x=.slice A' n cap:=ex
  have ey:a.eval y=.int .i64 m:=(hy.spec hI hd).out
  obtain⟨b,o,rfl,_⟩:=h3 (by omega)
  refine⟨.slice (some ⟨b,o+m*sz,none⟩) (n-m) (cap-m),w,?_,Below.refl _ _,k.imp λw' ⟨A2,yS,e2,h3,h4,h5⟩=>?_⟩
  ·show(do pure (Next.value (<-Instr.sliceAt T (a.eval x) (some (a.eval y)) none none))).run P w=_
   rw[ex,ey]
   have hr:(Instr.sliceAt T (.slice (some ⟨b,o,none⟩) n cap) (some (.int .i64 m)) none none).run P w=.ok (.slice (some ⟨b,o+m*sz,none⟩) (n-m) (cap-m)) w:=by
    have e1:(Instr.sliceBound (.int .i64 m) n .sliceB).run P w=.ok m w:=by
     have:=run_sliceBound (P:=P) w .i64 (m:Int) n .sliceB (by omega) (by omega)
     simpa using this
    have hne:¬cap=m:=by omega
    simp only[Instr.sliceAt,Sem.run_bind,run_underlying hE.under,Result.andThen_ok,Instr.slice,Instr.sliceBounds,Sem.run_pure]
    simp only[Option.isSome_none,Bool.false_eq_true,if_false,e1,Result.andThen_ok,hE.size w,hne,Option.map_some,Addr.add_mid]
   rw[Sem.run_bind,hr]
   rfl
  ·have e2:a.eval x=.slice A2 n yS:=e2
   rw[ex]at e2
   injection e2 with e2 _ e4
   subst e2 e4
   obtain⟨b',o',hA,hf⟩:=h5 (by omega)
   injection hA with hA
   injection hA with hb ho
   subst hb ho
   refine⟨some ⟨b,o+m*sz,none⟩,cap-m,rfl,by omega,by omega,λ_=>⟨b,o+m*sz,rfl,λq hq=>?_⟩⟩
   obtain⟨cs,c1,c2,c3⟩:=hf (m+q) (by omega)
   refine⟨cs,c1,λj u hj=>?_,c3⟩
   have:=c2 j u hj
   rw[Nat.add_mul]at this
   rw[show o+m*sz+q*sz+j=o+(m*sz+q*sz)+j by omega]
   exact this
theorem Jd {w:World} {o:Nat}:∀{l:List Rat} {f:Nat->Pred},(∀q,q<l.length->∀w v,f q w v->pR j (l.getD q 0) w v)->(∀q,q<l.length->∃cs:List Value,cs.length=3/\(∀(t:Nat) (u:Value),cs[t]?=some u->w.cell? ⟨b,o+q*3+t,none⟩=some u)/\f q w (aj true cs)) ->
  ∃cs:List Value,cs.length=l.length*3/\(∀(t:Nat) (u:Value),cs[t]?=some u->w.cell? ⟨b,o+t,none⟩=some u)/\aM (l.map (zb au j)) w cs:=by
 intro l
 induction l generalizing o with
 |nil=>exactλ_ _=>⟨[],rfl,λt u h=>by simp at h,rfl⟩
 |cons x l ih=>
  intro f hf h
  obtain⟨cs,h1,h2,h3⟩:=h 0 (by rw[List.length_cons]; omega)
  obtain⟨ds,k1,k2,k3⟩:=ih (o:=o+3) (f:=λq=>f (q+1)) (λq hq w v hv=>hf (q+1) (by rw[List.length_cons]; omega) w v hv) λq hq=>by
   obtain⟨cs,h1,h2,h3⟩:=h (q+1) (by rw[List.length_cons]; omega)
   exact⟨cs,h1,λt u hu=>by rw[show o+3+q*3+t=o+(q+1)*3+t by omega]; exact h2 t u hu,h3⟩
  refine⟨cs++ds,by rw[List.length_append,h1,k1,List.length_cons]; omega,λt u hu=>?_,?_⟩
  ·rcases Nat.lt_or_ge t 3 with ht|ht
   ·rw[List.getElem?_append_left (by omega)]at hu
    have:=h2 t u hu
    rwa [Nat.zero_mul,Nat.add_zero]at this
   ·rw[List.getElem?_append_right (by omega),h1]at hu
    have:=k2 _ u hu
    rwa [show o+3+(t-3)=o+t by omega]at this
  ·have e1:=hf 0 (by rw[List.length_cons]; omega) w _ h3
   have:=tD (l:=[x]) (m:=l) ((IY h1).2 e1) k3
   exact this
theorem arP {m:Nat} (l':List Rat) (h:Has ms G i x (aA 3 true n f):=by exact hs) (_:l'=l:=by exact rfl) (hf:∀q,q<l.length->∀w v,f q w v->pR j (l.getD q 0) w v:=by exactλ_ _ _ _ h=>h) (hn:l.length<=n:=by first|omega|decide) (h0:0<n:=by first|omega|decide) (hp:Post G i (cZ m true (pV au j l)):=by exact pt rfl) (hm:m=l.length*3:=by exact rfl) (ht:(match P.underlying T with|some (.array k _)=>Nat.beq k l.length|_=>false)=true:=by kernel_rfl):OpOk P ops ms c V A G i ⟨some d,.sliceToArrayPointer T x,ty,pos,aft,none⟩:=
 cC rfl rfl rfl (.inl rfl) hp λL β a w hI hd=>by
  have k:=h.spec hI hd
  obtain⟨A',cap,ex,h1,h2,h3⟩:=k.out
  have ex:a.eval x=.slice A' n cap:=ex
  obtain⟨b,o,rfl,_⟩:=h3 h0
  refine⟨.pointer (some ⟨b,o,none⟩),w,?_,Below.refl _ _,k.imp λw' ⟨A2,yS,e2,_,_,h5⟩=>?_⟩
  ·show(do pure (Next.value (<-Instr.arrayAt T (a.eval x)))).run P w=_
   rw[ex]
   split at ht
   ·rename_i k E hE
    have e:=Nat.eq_of_beq_eq_true ht
    have hr:(Instr.arrayAt T (.slice (some ⟨b,o,none⟩) n cap)).run P w=.ok (.pointer (some ⟨b,o,none⟩)) w:=by
     simp[Instr.arrayAt,run_underlying hE,Nat.not_lt.2 (show k<=n by omega)]
    rw[Sem.run_bind,hr]
    rfl
   ·cases ht
  ·have e2:a.eval x=.slice A2 n yS:=e2
   rw[ex]at e2
   injection e2 with e2 _ e4
   subst e2 e4
   obtain⟨b',o',hA,hf'⟩:=h5 h0
   injection hA with hA
   injection hA with hb ho
   subst hb ho
   obtain⟨cs,c1,c2,c3⟩:=Jd (l:=l) hf λq hq=>hf' q (by omega)
   exact⟨b,o,cs,rfl,by rw[c1,hm],c2,⟨cs,rfl,c3⟩⟩
end
variable {c:fT} {V:List Vr} {G:List bz} {a:Act} {w:World} {q:Pred}
theorem CN {p:Pred} (hI:Inv c V [] G none_ a w) (s:Nat) (hq:∀w v,p w v->q w v) (h:kT s G=some p:=by exact rfl):Inv c V [] (⟨none,none,s,q⟩::G) none_ a w:=by
 obtain⟨β,hI⟩:=hI
 obtain⟨k,hk⟩:=gG h
 refine⟨β,hI.size,hI.defers,hI.below,hI.old,hI.var,hI.apart,hI.al,λe he ho hf=>?_⟩
 rcases List.mem_cons.1 he with rfl|he
 ·exact(hI.jM _ (List.mem_of_getElem? hk) rfl rfl).imp λw=>hq w _
 ·exact hI.jM e he ho hf
theorem Ju {i T n:Nat} {ag:Bool} (hI:Inv c V [] G none_ a w) (k:Nat) (hk:V[k]?=some (Vz i i T n ag q)) (hu:((V.eraseIdx k).all λy=>y.id != i)=true):Inv c (V.eraseIdx k) [] (⟨none,none,i,cZ n ag q⟩::G) none_ a w:=by
 obtain⟨β,h⟩:=hI
 have hx:=List.mem_of_getElem? hk
 have hsub:∀y,y∈V.eraseIdx k->y∈V/\y.id≠i:=λy hy=>⟨List.mem_of_mem_eraseIdx hy,by
  have:=List.all_eq_true.1 hu y hy
  simpa using this⟩
 obtain⟨g,h1,h2,h3⟩:=(bJ (by rfl)).1 (h.var _ hx rfl)
 have h1:∀k,β i k↔k=g:=h1
 have h2:sl a i=.pointer (some ⟨g,0,none⟩):=h2
 obtain⟨cs,k1,k2,k3,k4⟩:=h3.held
 have k4:aO (own c V none_ β) (λw=>q w (aj ag cs)) w:=k4
 have k2:cs.length=n:=k2
 have hnew:mine c g:=h3.new
 have Vj:g<w.heap.size:=(Array.getElem?_eq_some_iff.1 k1).1
 have eo:∀k' o,own c (V.eraseIdx k) none_ β k' o->own c V none_ β k' o/\k'≠g:=by
  rintro k' o (hM|⟨y,hy,q1,q2,q3⟩)
  ·refine⟨.inl hM,λhb=>?_⟩
   have:=(h.old k' o hM).1
   rw[hb]at this
   exact hnew.elim (λh'=>absurd this.1 (Nat.not_lt.2 h')) (λh'=>this.2 h')
  ·obtain⟨hy,hid⟩:=hsub y hy
   exact⟨.inr ⟨y,hy,q1,q2,q3⟩,λhb=>h.apart y _ k' hy hx q1 rfl hid q2 ((h1 k').2 hb)⟩
 refine⟨β,h.size,h.defers,h.below,h.old,λy hy hl=>(h.var y (hsub y hy).1 hl).keep rfl rfl (λ_ _=>rfl) (Nat.le_refl _) (λF hF=>hF.sub λk o _ hh=>(eo k o hh).1) (λF hF=>hF.sub λk o _ hh=>⟨(eo k o hh.1).1,hh.2⟩) rfl,λy z g hy hz=>h.apart y z g (hsub y hy).1 (hsub z hz).1,(λp hp=>by cases hp),λe he ho hf'=>?_⟩
 rcases List.mem_cons.1 he with rfl|he
 ·intro w' hw'
  show cZ n ag q w' (sl a i)
  rw[h2]
  have hb:w'.heap[g]?=some (.cells cs.toArray T (0,0)):=(hw'.block g Vj λo hh=>(eo g o hh).2 rfl).trans k1
  refine⟨g,0,cs,rfl,k2,λj v hj=>?_,k4 w' (hw'.mono λk o _ hh=>(eo k o hh).1)⟩
  rw[Nat.zero_add]
  simp only[World.cell?,hb]
  simpa using hj
 ·exact(h.jM e he ho hf').sub λk o _ hh=>(eo k o hh).1
end Wx
