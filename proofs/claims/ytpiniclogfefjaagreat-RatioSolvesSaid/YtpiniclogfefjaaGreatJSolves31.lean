import Derived.Test.YtpiniclogfefjaaGreatJSolves30
import Derived.Test.YtpiniclogfefjaaGreatJSolves23
namespace Wx
open Go Go.RowKit

def appG (H:List Bk) (b sz:Nat) (ag:Bool) (items:List It):List Bk:=⟨b,sz,ag,items⟩::H.filter fun e=>e.b != b
theorem appG_mem {H:List Bk} {b sz:Nat} {ag:Bool} {items:List It}:(⟨b,sz,ag,items⟩:Bk)∈appG H b sz ag items:=List.mem_cons_self ..
theorem Qdw {H:List Bk} {b sz:Nat} {ag:Bool} {items:List It} {e:Bk} (he:e∈H) (hb:e.b≠b):e∈appG H b sz ag items:=List.mem_cons_of_mem _ (List.mem_filter.2 ⟨he,by simpa using hb⟩)
theorem HpOk.appG {B:Nat→Prop} {M:Nat→Nat→Prop} {w w':World} {H:List Bk} {b sz:Nat} {ag:Bool} {items:List It} (h:HpOk B w H) (hM:Mid M w) (he:Ext M w w') (hb:∀k,k<w.heap.size→k≠b→w'.heap[k]?=w.heap[k]?) (hn:(⟨b,sz,ag,items⟩:Bk).ok w'):HpOk (fun k=>B k∨k=b) w' (Wx.appG H b sz ag items):=by
 obtain⟨h1,h2,h3⟩:=h
 refine⟨fun k=>⟨?_,?_⟩,List.pairwise_cons.2 ⟨fun e hm=>?_,h2.filter _⟩,fun e hm=>?_⟩
 ·rintro(hk|rfl)
  ·obtain⟨e,hm,rfl⟩:=(h1 k).1 hk
   by_cases hb':e.b=b
   ·exact⟨_,appG_mem,hb'.symm⟩
   ·exact⟨e,Qdw hm hb',rfl⟩
  ·exact⟨_,appG_mem,rfl⟩
 ·rintro⟨e,hm,rfl⟩
  rcases List.mem_cons.1 hm with rfl|hm
  ·exact .inr rfl
  ·exact .inl ((h1 _).2 ⟨e,(List.mem_filter.1 hm).1,rfl⟩)
 ·have:=(List.mem_filter.1 hm).2
  exact fun e'=>by rw[← e']at this; simp at this
 ·rcases List.mem_cons.1 hm with rfl|hm
  ·exact hn
  ·have hm':=List.mem_filter.1 hm
   exact Bk.ok_keep (h3 e hm'.1) hM he (hb _ (Bk.ok_lt (h3 e hm'.1)) (by simpa using hm'.2))
def NewOk (H:List Bk) (n:Nat) (r:RowL):Prop:=r.n=n∧r.cap=n∧n≤1000000∧∀e,e∈H→e.b≠r.b
def pNew (H:List Bk) (sz:Nat) (ag:Bool) (n:Nat) (it:It):Zz:=fun B w v=>∃r:RowL,NewOk H n r∧v=r.hdr∧HpOk B w (appG H r.b sz ag (List.replicate n it))
section
variable {P:Program} {ops:Array Oper} {ms:List Nat} {c:Cfg} {V:List Vr} {A:List Al} {G:List Ent} {i:Nat} {L:Nat→Bool} {β:Nat→Nat→Prop} {a:Act} {w:World} {o:Oper}
variable {d:Nat} {x y z:Operand} {ty:TypeId} {pos:String} {aft:Array Edge}
theorem op_makeSliceG {T E:TypeId} {sz n:Nat} {ag:Bool} {it:It} {zv:Value} {z:List Value} {v1 yv:Vr} {H:List Bk} (k:Nat) (hk:V[k]?=some v1) (ho:Zi ms i v1=true) (hkd:v1.kd=.obj) (hdead:v1.dead=some i) (hst:(v1.st.all fun q=>(q.1==i||(ms.getD i 0).testBit q.1)||(ms.getD q.1 0).testBit i)=true)
  (hc:cont (fun j=>(ms.getD i 0).testBit j) v1.c0 v1.st=Zo H) (k2:Nat) (hk2:V[k2]?=some yv) (hb:yv.born=some i) (hkd2:yv.kd=.obj) (hc0:yv.c0=pNew H sz ag n it) (hs0:yv.st=[]) (hal:(A.all fun p=>p.var != yv.id||p.tag.any fun j=>(ms.getD j 0).testBit i)=true)
  (h1:Has ms G i x (pI n)) (h2:Has ms G i y (pI n)) (ht:P.underlying T=some (.slice E)) (hi:(P.info? E).map (fun i=>(i.zero,i.size,decide (i.bytes≤4096)))=some (some zv,sz,true)) (hzc:zv.cells=z.toArray) (hzl:z.length=sz) (hs:0<sz) (hzu:∀u∈z,Yw u) (hit:∀w,it.p w (Xd ag z)) (hn:n≤1000000) (hp:Post G i Q4):
  Q0 P ops ms c V A G i ⟨some d,.makeSlice T x y,ty,pos,aft,none⟩:=by
 refine Wh (fun L β a w hI hd hwf=>?_) rfl
 have hx:=List.mem_of_getElem? hk
 have hy:=List.mem_of_getElem? hk2
 have hlx:=hd.live ho
 have hO:=obj_at hI hd hx ho hkd
 have hH:HpOk (β v1.id) w H:=by
  have:=hO.2.out
  rw[Qcr hd hst,hc]at this
  exact this
 obtain⟨ti,h3,hzz⟩:=Option.map_eq_some_iff.1 hi
 simp only[Prod.mk.injEq,decide_eq_true_eq]at hzz
 obtain⟨hz,hsz,hby⟩:=hzz
 have ex:a.eval x=.int .i64 n:=(h1.spec hI hd).out
 have ey:a.eval y=.int .i64 n:=(h2.spec hI hd).out
 have hbytes:(ti.bytes:Int)*(n:Int)≤281474976710656:=by
  have:ti.bytes*n≤4096*1000000:=Nat.mul_le_mul hby hn
  have:((ti.bytes*n:Nat):Int)≤4096000000:=by omega
  rw[Int.natCast_mul]at this
  omega
 have hrun:=run_make (P:=P) w T E ti zv ht h3 hz .i64 .i64 (n:Int) (n:Int) (by omega) (Int.le_refl _) hbytes (by omega)
 rw[hsz,hzc,Int.toNat_natCast]at hrun
 have hcell:madeCells z.toArray (n*sz)=((madeCells z.toArray (n*sz)).toList).toArray:=by simp
 rw[hcell]at hrun
 have hb0:Below w.heap.size w (w.alloc (.cells ((madeCells z.toArray (n*sz)).toList).toArray E)):=Below.alloc (Below.refl _ _) (Nat.le_refl _) _
 have only:∀z,z∈V→live L z=true→z.dead≠some i→z.id≠v1.id:=fun z hz _ hdz e=>by
  have:=hwf.vu z v1 hz hx e
  subst this
  exact hdz hdead
 have own1:∀k j,β v1.id k→own c V L β k j:=fun k j hk=>.inr ⟨v1,hx,hlx,hk,by unfold Vr.lo; rw[hkd]; exact Nat.zero_le _⟩
 have hnew:(⟨w.heap.size,sz,ag,List.replicate n it⟩:Bk).ok (w.alloc (.cells ((madeCells z.toArray (n*sz)).toList).toArray E)):=by
  refine⟨_,E,heap_alloc_new w _,?_,fun v hv=>?_,fun q it' hq=>?_⟩
  ·show(List.replicate n it).length*sz≤_
   rw[List.length_replicate,Array.length_toList]
   simp[madeCells]
  ·obtain⟨q,hq⟩:=List.mem_iff_getElem?.1 hv
   rw[Array.getElem?_toList]at hq
   simp only[madeCells,Array.getElem?_map,Option.map_eq_some_iff]at hq
   obtain⟨q',_,rfl⟩:=hq
   have hlt:q'%z.toArray.size<z.toArray.size:=Nat.mod_lt _ (by simp; omega)
   rw[getElem!_pos z.toArray _ hlt]
   exact hzu _ (by simp)
  ·have hq:(List.replicate n it)[q]?=some it':=hq
   rw[List.getElem?_replicate]at hq
   split at hq
   ·rename_i hqn
    injection hq with hq
    subst hq
    show it.p _ (Xd ag (((madeCells z.toArray (n*sz)).toList.drop (q*sz)).take sz))
    rw[Qgl hzl hqn]
    exact hit _
   ·cases hq
 have hHn:=hH.appG (Yq hI) (Ext.of_below hb0) (fun k hk _=>hb0.block k hk) hnew
 refine Jq (v:=.slice (some ⟨w.heap.size,0,none⟩) n n) (w':=w.alloc (.cells ((madeCells z.toArray (n*sz)).toList).toArray E)) ?_ ?_
 ·show(do pure (Next.value (← Instr.makeSlice T (a.eval x) (a.eval y)))).run P w=_
  rw[ex,ey,Sem.run_bind,hrun]
  rfl
 ·refine hI.remakeO hd hwf hy hb hkd2 rfl rfl hal (B':=fun k=>β v1.id k∨k=w.heap.size) ⟨hb0.os,hb0.tape,hb0.output,hb0.size⟩ (fun k hk _=>hb0.block k (Nat.lt_of_lt_of_le hk hI.below.size)) (fun z hz hl hdz k hk=>⟨hb0.block k (Ze hI hz hl hk),fun h=>h.elim (fun h=>hI.apart z v1 k hz hx hl hlx (only z hz hl hdz) hk h) fun e=>absurd e (Nat.ne_of_lt (Ze hI hz hl hk))⟩) (Ext.of_below hb0) (fun z hz hl _=>Ext.of_below hb0) (fun k j hk hB=>hB.elim (own1 k j) fun e=>absurd e (Nat.ne_of_lt hk)) (fun k hB=>hB.elim (fun h=>(hO.1 k h).1) fun e=>.inl (by rw[e]; exact hI.below.size)) hHn hs0 (fun w'' h=>by
   rw[hc0]
   exact⟨⟨w.heap.size,n,n⟩,⟨rfl,rfl,hn,fun e he=>Nat.ne_of_lt (Bk.ok_lt (hH.2.2 e he))⟩,rfl,h⟩) (fun e he ht' w''=>hp.spec hwf he ht' w'' _ trivial)
theorem Inv.openNew {H:List Bk} {sz n:Nat} {ag:Bool} {it:It} {id s:Nat} (h:Inv c V [] G Qf a w) (n0:Nat) (hk:V[n0]?=some ⟨id,s,none,none,.obj,0,0,false,pNew H sz ag n it,[]⟩) (hu:(V.filter fun y=>y.id==id).length=1):
  ∃l:RowL,NewOk H n l∧Inv c (V.set n0 (Yi id s (appG H l.b sz ag (List.replicate n it)))) [] (⟨none,none,s,Qi l.hdr⟩::G) Qf a w:=h.openO (C:=NewOk H n) (hd:=RowL.hdr) (Hl:=fun r=>appG H r.b sz ag (List.replicate n it)) hk hdr_inj hu
end
def hdO:Option RowL→Value
 |none=>.slice none 0 0
 |some r=>r.hdr
def Vf (R:List (Option RowL)):List It:=R.map fun r=>Zm (hdO r)
def V8 (R:List (Option RowL)) (i:Nat):Option RowL:=R.getD i none
structure GridOk (sz:Nat) (ag:Bool) (g n:Nat) (R:List (Option RowL)) (X:Nat→List It) (H:List Bk):Prop where
 top:(⟨g,1,false,Vf R⟩:Bk)∈H
 len:R.length=n
 nil:∀i,i<n→V8 R i=none→X i=[]
 rows:∀i r,i<n→V8 R i=some r→r.n=(X i).length∧r.n≤r.cap∧r.cap≤1000000∧(⟨r.b,sz,ag,X i⟩:Bk)∈H∧r.b≠g
 apart:∀i j r q,i<n→j<n→V8 R i=some r→V8 R j=some q→i≠j→r.b≠q.b
theorem topsO_len (R:List (Option RowL)):(Vf R).length=R.length:=List.length_map ..
theorem topsO_get {R:List (Option RowL)} {i:Nat} (h:i<R.length):(Vf R)[i]?=some (Zm (hdO (V8 R i))):=by
 unfold Vf V8
 rw[List.getElem?_map,List.getD_eq_getElem?_getD,List.getElem?_eq_getElem h]
 rfl
theorem topsO_set (R:List (Option RowL)) (i:Nat) (r:RowL):(Vf R).set i (Zm r.hdr)=Vf (R.set i (some r)):=by
 unfold Vf
 rw[List.map_set]
 rfl
theorem rowO_set {R:List (Option RowL)} {i j:Nat} {r:RowL} (hi:i<R.length):V8 (R.set i (some r)) j=if j=i then some r else V8 R j:=by
 unfold V8
 rw[List.getD_eq_getElem?_getD,List.getD_eq_getElem?_getD]
 by_cases h:j=i
 ·subst h
  rw[if_pos rfl,List.getElem?_set_self hi]
  rfl
 ·rw[if_neg h,List.getElem?_set_ne (Ne.symm h)]
def setX (X:Nat→List It) (i:Nat) (l:List It):Nat→List It:=fun j=>if j=i then l else X j
theorem hset_in {H:List Bk} {b idx:Nat} {it:It} {e:Bk} (he:e∈H) (hb:e.b=b):({ e with items:=e.items.set idx it }:Bk)∈Ye H b idx it:=List.mem_map.2 ⟨e,he,if_pos hb⟩
theorem Qgi {H:List Bk} {b idx:Nat} {it:It} {e:Bk} (he:e∈H) (hb:e.b≠b):e∈Ye H b idx it:=List.mem_map.2 ⟨e,he,if_neg hb⟩
section
variable {sz:Nat} {ag:Bool} {g n:Nat} {R:List (Option RowL)} {X:Nat→List It} {H:List Bk}
theorem grid_nil (sz:Nat) (ag:Bool) (g n:Nat):GridOk sz ag g n (List.replicate n none) (fun _=>[]) [⟨g,1,false,List.replicate n (Zm (.slice none 0 0))⟩]:=by
 have e:∀i,V8 (List.replicate n none) i=none:=fun i=>by
  unfold V8
  rw[List.getD_eq_getElem?_getD,List.getElem?_replicate]
  split<;>rfl
 refine⟨?_,by simp,fun i _ _=>rfl,fun i r _ h=>(by rw[e]at h; cases h),fun i j r q _ _ h=>(by rw[e]at h; cases h)⟩
 unfold Vf
 rw[List.map_replicate]
 exact List.mem_singleton.2 rfl
theorem GridOk.at_ (h:GridOk sz ag g n R X H) {i:Nat} (hi:i<n) (h0:0<(X i).length):∃r,V8 R i=some r:=by
 cases e:V8 R i with
 |none=>rw[h.nil i hi e]at h0; exact absurd h0 (Nat.lt_irrefl 0)
 |some r=>exact⟨r,rfl⟩
theorem GridOk.off (h:GridOk sz ag g n R X H) {i:Nat} {r:RowL} (hi:i<n) (hr:V8 R i=some r):g≠r.b:=Ne.symm (h.rows i r hi hr).2.2.2.2
theorem GridOk.hd (h:GridOk sz ag g n R X H) {i:Nat} {r:RowL} (hi:i<n) (hr:V8 R i=some r):(Vf R)[i]?=some (Zm r.hdr):=by
 rw[topsO_get (by rw[h.len]; exact hi),hr]
 rfl
theorem GridOk.put (h:GridOk sz ag g n R X H) {i m:Nat} (hi:i<n) {l:List It} {r:RowL} (hl:l.length=m) (hr:NewOk H m r):GridOk sz ag g n (R.set i (some r)) (setX X i l) (Ye (appG H r.b sz ag l) g i (Zm r.hdr)):=by
 obtain⟨h1,h2,h3,h4⟩:=hr
 have eR:∀j,V8 (R.set i (some r)) j=if j=i then some r else V8 R j:=fun j=>rowO_set (by rw[h.len]; exact hi)
 have hg:g≠r.b:=h4 _ h.top
 refine⟨?_,by rw[List.length_set]; exact h.len,fun j hj hn=>?_,fun j q hj hq=>?_,fun j k q q2 hj hk hq hq2 hne=>?_⟩
 ·rw[← topsO_set]
  exact hset_in (Qdw h.top hg) rfl
 ·rw[eR]at hn
  unfold setX
  split at hn
  ·cases hn
  ·rename_i hji
   rw[if_neg hji]
   exact h.nil j hj hn
 ·rw[eR]at hq
  unfold setX
  split at hq
  ·rename_i hji
   injection hq with hq
   subst hq
   rw[if_pos hji]
   exact⟨by omega,by omega,by omega,Qgi appG_mem (Ne.symm hg),Ne.symm hg⟩
  ·rename_i hji
   rw[if_neg hji]
   obtain⟨k1,k2,k3,k4,k5⟩:=h.rows j q hj hq
   exact⟨k1,k2,k3,Qgi (Qdw k4 (h4 _ k4)) k5,k5⟩
 ·rw[eR]at hq hq2
  split at hq<;>split at hq2
  ·omega
  ·injection hq with hq
   subst hq
   exact Ne.symm (h4 _ (h.rows k q2 hk hq2).2.2.2.1)
  ·injection hq2 with hq2
   subst hq2
   exact h4 _ (h.rows j q hj hq).2.2.2.1
  ·exact h.apart j k q q2 hj hk hq hq2 hne
theorem GridOk.set (h:GridOk sz ag g n R X H) {i k:Nat} (hi:i<n) {r:RowL} (hr:V8 R i=some r) {it:It}:GridOk sz ag g n R (setX X i ((X i).set k it)) (Ye H r.b k it):=by
 have hg:=h.off hi hr
 refine⟨Qgi h.top hg,h.len,fun j hj hn=>?_,fun j q hj hq=>?_,h.apart⟩
 ·unfold setX
  split
  ·rename_i hji
   rw[hji,hr]at hn
   cases hn
  ·exact h.nil j hj hn
 ·obtain⟨k1,k2,k3,k4,k5⟩:=h.rows j q hj hq
  unfold setX
  split
  ·rename_i hji
   subst hji
   rw[hr]at hq
   injection hq with hq
   subst hq
   exact⟨by rw[List.length_set]; exact k1,k2,k3,hset_in k4 rfl,k5⟩
  ·rename_i hji
   exact⟨k1,k2,k3,Qgi k4 (h.apart j i q r hj hi hq hr hji),k5⟩
theorem GridOk.congr {X':Nat→List It} (h:GridOk sz ag g n R X H) (he:∀i,i<n→X i=X' i):GridOk sz ag g n R X' H:=
 ⟨h.top,h.len,fun i hi hn=>by rw[← he i hi]; exact h.nil i hi hn,fun i r hi hr=>by rw[← he i hi]; exact h.rows i r hi hr,h.apart⟩
theorem heap_items {B:Nat→Prop} {w:World} {H:List Bk} {b cap:Nat} {l:List It} (h:HpOk B w H) (he:(⟨b,sz,ag,l⟩:Bk)∈H) (hc:l.length≤cap) (hm:cap≤1000000):Qc sz ag l.length (fun k=>(l.getD k Uf).p) w (.slice (some ⟨b,0,none⟩) l.length cap):=by
 obtain⟨cs,T,h1,h2,_,h4⟩:=h.2.2 _ he
 have h1:w.heap[b]?=some (.cells cs.toArray T (0,0)):=h1
 have h2:l.length*sz≤cs.length:=h2
 refine⟨_,_,rfl,hc,by unfold maxLen; omega,fun _=>⟨b,0,rfl,fun i hi=>⟨(cs.drop (i*sz)).take sz,?_,fun j v hj=>?_,?_⟩⟩⟩
 ·have:=Nat.mul_le_mul_right sz (show i+1≤l.length from hi)
  rw[Nat.succ_mul]at this
  rw[List.length_take,List.length_drop]
  omega
 ·rw[Nat.zero_add]
  exact W4 h1 _ _ j v hj
 ·have e:l[i]?=some (l.getD i Uf):=by rw[List.getD_eq_getElem?_getD,List.getElem?_eq_getElem hi]; rfl
  exact h4 i _ e
theorem GridOk.read {cap:Nat} (h:GridOk sz ag g n R X H) (hn:n≤cap) (hm:cap≤1000000):∀B w,HpOk B w H→Qc 1 false n (fun i=>Qc sz ag (X i).length fun k=>((X i).getD k Uf).p) w (.slice (some ⟨g,0,none⟩) n cap):=by
 intro B w hH
 obtain⟨cs,T,h1,h2,_,h4⟩:=hH.2.2 _ h.top
 have h1:w.heap[g]?=some (.cells cs.toArray T (0,0)):=h1
 have h2:(Vf R).length*1≤cs.length:=h2
 rw[topsO_len,h.len]at h2
 refine⟨_,_,rfl,hn,by unfold maxLen; omega,fun _=>⟨g,0,rfl,fun i hi=>⟨(cs.drop i).take 1,?_,fun j v hj=>?_,?_⟩⟩⟩
 ·rw[List.length_take,List.length_drop]
  omega
 ·rw[Nat.mul_one,Nat.zero_add]
  exact W4 h1 _ _ j v hj
 ·have h5:=h4 i _ (topsO_get (by rw[h.len]; exact hi))
  have h5:Xd false ((cs.drop (i*1)).take 1)=hdO (V8 R i):=h5
  rw[Nat.mul_one]at h5
  show Qc sz ag (X i).length (fun k=>((X i).getD k Uf).p) w (Xd false ((cs.drop i).take 1))
  rw[h5]
  cases e:V8 R i with
  |none=>
   rw[h.nil i hi e]
   exact⟨none,0,rfl,Nat.le_refl _,Nat.zero_le _,fun h=>absurd h (Nat.lt_irrefl _)⟩
  |some r=>
   obtain⟨k1,k2,k3,k4,_⟩:=h.rows i r hi e
   have:=heap_items hH k4 (by omega) k3
   show Qc sz ag (X i).length _ w (.slice (some ⟨r.b,0,none⟩) r.n r.cap)
   rw[k1]
   exact this
end
structure GridL where
 g:Nat
 R:List (Option RowL)
 H:List Bk
def GridL.hd (n:Nat) (l:GridL):Value:=.slice (some ⟨l.g,0,none⟩) n n
def X9 (m:Nat) (f:Nat→Nat→It):Nat→List It:=fun i=>(List.range m).map (f i)
theorem Zd {m:Nat} {f:Nat→Nat→It} (i:Nat):(X9 m f i).length=m:=by simp[X9]
theorem Qfo {m:Nat} {f:Nat→Nat→It} {i k:Nat} (h:k<m):(X9 m f i)[k]?=some (f i k):=by
 unfold X9
 rw[List.getElem?_map,List.getElem?_range h]
 rfl
theorem rectX_getD {m:Nat} {f:Nat→Nat→It} {i k:Nat} (h:k<m):(X9 m f i).getD k Uf=f i k:=by
 rw[List.getD_eq_getElem?_getD,Qfo h]
 rfl
def setC (f:Nat→Nat→It) (i k:Nat) (it:It):Nat→Nat→It:=fun j q=>if j=i∧q=k then it else f j q
theorem Qdl {m:Nat} {f:Nat→Nat→It} {i k:Nat} {it:It} (j:Nat):setX (X9 m f) i ((X9 m f i).set k it) j=X9 m (setC f i k it) j:=by
 unfold setX
 by_cases hj:j=i
 ·subst hj
  rw[if_pos rfl]
  apply List.ext_getElem?
  intro q
  rcases Nat.lt_or_ge q m with hq|hq
  ·rw[Qfo hq]
   unfold setC
   by_cases hk:q=k
   ·subst hk
    rw[List.getElem?_set_self (by rw[Zd]; exact hq),if_pos ⟨rfl,rfl⟩]
   ·rw[List.getElem?_set_ne (Ne.symm hk),Qfo hq,if_neg (fun h=>hk h.2)]
  ·rw[List.getElem?_eq_none (by rw[List.length_set,Zd]; exact hq),List.getElem?_eq_none (by rw[Zd]; exact hq)]
 ·rw[if_neg hj]
  unfold X9 setC
  apply List.map_congr_left
  intro q _
  rw[if_neg (fun h=>hj h.1)]
def partX (m k:Nat) (f:Nat→Nat→It):Nat→List It:=fun i=>if i<k then(List.range m).map (f i)else[]
def Qaw (m:Nat) (f:Nat→Nat→It) (k k2:Nat):Nat→List It:=fun i=>if i<k then(List.range m).map (f i)else if i=k then(List.range m).map (fun j=>if j<k2 then f k j else Uf)else[]
theorem fill_row {m:Nat} {f:Nat→Nat→It} {k k2:Nat}:Qaw m f k k2 k=(List.range m).map (fun j=>if j<k2 then f k j else Uf):=by
 unfold Qaw
 rw[if_neg (Nat.lt_irrefl _),if_pos rfl]
theorem fill_len {m:Nat} {f:Nat→Nat→It} {k k2:Nat}:(Qaw m f k k2 k).length=m:=by rw[fill_row]; simp
theorem part_zero {m:Nat} {f:Nat→Nat→It} (i:Nat):([]:List It)=partX m 0 f i:=by
 unfold partX
 rw[if_neg (Nat.not_lt_zero _)]
theorem fill_start {m:Nat} {f:Nat→Nat→It} {k:Nat} (i:Nat):setX (partX m k f) k (List.replicate m Uf) i=Qaw m f k 0 i:=by
 unfold setX partX Qaw
 by_cases h:i=k
 ·subst h
  rw[if_pos rfl,if_neg (Nat.lt_irrefl _),if_pos rfl]
  apply List.ext_getElem?
  intro q
  rw[List.getElem?_replicate,List.getElem?_map]
  rcases Nat.lt_or_ge q m with hq|hq
  ·rw[if_pos hq,List.getElem?_range hq]; rfl
  ·rw[if_neg (by omega),List.getElem?_eq_none (by simp; omega)]; rfl
 ·rw[if_neg h,if_neg h]
theorem fill_step {m:Nat} {f:Nat→Nat→It} {k k2:Nat} (h2:k2<m) (i:Nat):setX (Qaw m f k k2) k ((Qaw m f k k2 k).set k2 (f k k2)) i=Qaw m f k (k2+1) i:=by
 unfold setX
 by_cases h:i=k
 ·subst h
  rw[if_pos rfl,fill_row,fill_row]
  apply List.ext_getElem?
  intro q
  rcases Nat.lt_or_ge q m with hq|hq
  ·by_cases e:q=k2
   ·subst e
    rw[List.getElem?_set_self (by simp; exact hq),List.getElem?_map,List.getElem?_range hq]
    show some _=some (if q<q+1 then _ else _)
    rw[if_pos (Nat.lt_succ_self _)]
   ·rw[List.getElem?_set_ne (Ne.symm e),List.getElem?_map,List.getElem?_map,List.getElem?_range hq]
    show some (if q<k2 then _ else _)=some (if q<k2+1 then _ else _)
    by_cases e2:q<k2
    ·rw[if_pos e2,if_pos (by omega)]
    ·rw[if_neg e2,if_neg (by omega)]
  ·rw[List.getElem?_eq_none (by simp; omega),List.getElem?_eq_none (by simp; omega)]
 ·rw[if_neg h]
  unfold Qaw
  rw[if_neg h,if_neg h]
theorem fill_end {m:Nat} {f:Nat→Nat→It} {k:Nat} (i:Nat):Qaw m f k m i=partX m (k+1) f i:=by
 unfold Qaw partX
 by_cases h:i<k
 ·rw[if_pos h,if_pos (by omega)]
 ·rw[if_neg h]
  by_cases h2:i=k
  ·subst h2
   rw[if_pos rfl,if_pos (by omega)]
   apply List.map_congr_left
   intro q hq
   rw[if_pos (List.mem_range.1 hq)]
  ·rw[if_neg h2,if_neg (by omega)]
theorem part_end {n m:Nat} {f:Nat→Nat→It} (i:Nat) (hi:i<n):partX m n f i=X9 m f i:=if_pos hi
theorem W1 {m:Nat} {f g:Nat→Nat→It} {i:Nat} (h:∀k,k<m→f i k=g i k):X9 m f i=X9 m g i:=List.map_congr_left fun k hk=>h k (List.mem_range.1 hk)
section
variable {P:Program} {c:Cfg} {V:List Vr} {G:List Ent} {a:Act} {w:World} {d:Nat} {x y:Operand} {ty:TypeId} {pos:String} {aft:Array Edge}
theorem Qbb {Λ:Type} {C:Λ→Prop} {hd:Λ→Value} {H:Λ→List Bk} {p1 p2:Qg} (id:Nat) {f:FuncId} {ts:Array TypeId} {ops:Array Oper} (hf:Y0 P f) (h:Inv c V [] G Qf a w) (h1:Has [0] G 0 x p1) (h2:Has [0] G 0 y p2)
  (hc:∀(M:Nat→Nat→Prop) w v1 v2,Mid M w→Box M (fun w=>p1 w v1) w→Box M (fun w=>p2 w v2) w→Calls P f #[v1,v2] w (RetO C hd H w)) (hd':decide (d<c.N)=true) (hV:(V.all fun y=>(y.slot != d&&y.id != id)&&(y.born.isNone&&y.dead.isNone))=true) (hG:(G.all fun e=>e.slot != d)=true):
  DoesG P ops ⟨some d,.call ⟨.value (.func f),#[x,y],ts⟩,ty,pos,aft,none⟩ a w (fun a w=>∃l,C l∧Inv c (Yi id d (H l)::V) [] (⟨none,none,d,Qi (hd l)⟩::G) Qf a w):=
 step_callO hf h (fun β hI=>by
  rw[show(#[x,y]:Array Operand).map a.eval=#[a.eval x,a.eval y] by simp]
  exact hc _ w _ _ (Yq hI) (h1.spec hI det0) (h2.spec hI det0)) hd' hV hG
end
end Wx

namespace Wx
open Go Go.RowKit

def Yl (k:Nat) (f:Nat→Qg) (z:Qg):Nat→Qg:=fun i=>if i<k then f i else z
theorem Wd {k n:Nat} {f:Nat→Qg} {z p:Qg} (hp:∀w v,p w v→f k w v):∀i,i<n→∀w v,Zx (Yl k f z) k p i w v→Yl (k+1) f z i w v:=fun i _ w v h=>by
 unfold Zx at h
 unfold Yl at h ⊢
 by_cases hi:i=k
 ·subst hi
  rw[if_pos rfl]at h
  rw[if_pos (Nat.lt_succ_self _)]
  exact hp w v h
 ·rw[if_neg hi]at h
  by_cases h1:i<k
  ·rw[if_pos h1]at h; rw[if_pos (by omega)]; exact h
  ·rw[if_neg h1]at h; rw[if_neg (by omega)]; exact h
theorem Vn {f:Nat→Qg} {z:Qg} {n:Nat}:∀i,i<n→∀w v,(fun _=>z) i w v→Yl 0 f z i w v:=fun _ _ _ _ h=>h
theorem Qbm {n:Nat} {f:Nat→Qg} {z:Qg}:∀i,i<n→∀w v,Yl n f z i w v→f i w v:=fun i hi w v h=>by
 have e:Yl n f z i=f i:=if_pos hi
 rw[e]at h
 exact h
theorem filP_lt {k i:Nat} {f:Nat→Qg} {z:Qg} (h:i<k):∀w v,Yl k f z i w v→f i w v:=fun w v q=>by
 have e:Yl k f z i=f i:=if_pos h
 rw[e]at q
 exact q
end Wx

namespace Wx

def Vl (A:List (List Rat)) (k:Nat):List Rat:=A.map fun r=>r.getD k 0
theorem Kh (A:List (List Rat)) (k:Nat):(Vl A k).length=A.length:=List.length_map ..
theorem Ur {A:List (List Rat)} {k i:Nat} (h:i<A.length):(Vl A k).getD i 0=(A.getD i []).getD k 0:=by
 unfold Vl
 rw[List.getD_eq_getElem?_getD,List.getElem?_map,List.getElem?_eq_getElem h,List.getD_eq_getElem?_getD,List.getD_eq_getElem?_getD,List.getElem?_eq_getElem h]
 simp[List.getD_eq_getElem?_getD]
def Qq (A:List (List Rat)):List (List Rat):=(List.range (A.getD 0 []).length).map (Vl A)
theorem Yu (A:List (List Rat)):(Qq A).length=(A.getD 0 []).length:=by unfold Qq; rw[List.length_map,List.length_range]
theorem We {A:List (List Rat)} {k:Nat} (h:k<(A.getD 0 []).length):(Qq A).getD k []=Vl A k:=by
 unfold Qq
 rw[List.getD_eq_getElem?_getD,List.getElem?_map,List.getElem?_range h]
 rfl
def Vg (A:List (List Rat)) (n k j:Nat):List (List Rat):=(List.range n).map fun i=>if i<k then Vl A i else if i=k then(Vl A i).take j else[]
section
variable {A:List (List Rat)} {n k j:Nat}
theorem bldX_len:(Vg A n k j).length=n:=by unfold Vg; rw[List.length_map,List.length_range]
theorem bldX_get {i:Nat} (h:i<n):(Vg A n k j).getD i []=if i<k then Vl A i else if i=k then(Vl A i).take j else[]:=by
 unfold Vg
 rw[List.getD_eq_getElem?_getD,List.getElem?_map,List.getElem?_range h]
 rfl
theorem bldX_zero:Vg A n 0 0=List.replicate n []:=by
 unfold Vg
 apply List.ext_getElem?
 intro i
 rw[List.getElem?_map,List.getElem?_replicate]
 by_cases h:i<n
 ·rw[List.getElem?_range h,if_pos h]
  show some (if i<0 then _ else if i=0 then(Vl A i).take 0 else[])=_
  rw[if_neg (Nat.not_lt_zero _),List.take_zero]
  split<;>rfl
 ·rw[List.getElem?_eq_none (by simpa using h),if_neg h]
  rfl
theorem bldX_next:Vg A n k A.length=Vg A n (k+1) 0:=by
 unfold Vg
 refine List.map_congr_left fun i _=>?_
 by_cases h1:i<k
 ·rw[if_pos h1,if_pos (by omega)]
 ·rw[if_neg h1]
  by_cases h2:i=k
  ·rw[if_pos h2,if_pos (by omega),← Kh A i,List.take_length]
  ·rw[if_neg h2,if_neg (by omega)]
   split
   ·rw[List.take_zero]
   ·rfl
theorem bldX_step (hk:k<n) (hj:j<A.length):(Vg A n k j).set k ((Vg A n k j).getD k []++[(A.getD j []).getD k 0])=Vg A n k (j+1):=by
 rw[bldX_get hk,if_neg (Nat.lt_irrefl _),if_pos rfl]
 apply List.ext_getElem?
 intro i
 by_cases h:i=k
 ·subst h
  rw[List.getElem?_set_self (by rw[bldX_len]; exact hk)]
  unfold Vg
  rw[List.getElem?_map,List.getElem?_range hk]
  show _=some (if i<i then _ else if i=i then(Vl A i).take (j+1)else[])
  rw[if_neg (Nat.lt_irrefl _),if_pos rfl,List.take_add_one]
  congr 2
  have hjl:j<(Vl A i).length:=by rw[Kh]; exact hj
  rw[← Ur hj,List.getElem?_eq_getElem hjl,List.getD_eq_getElem?_getD,List.getElem?_eq_getElem hjl]
  rfl
 ·rw[List.getElem?_set_ne (Ne.symm h)]
  unfold Vg
  rw[List.getElem?_map,List.getElem?_map]
  cases hr:(List.range n)[i]? with
  |none=>rfl
  |some q=>
   have hq:q=i:=by
    have:=List.getElem?_eq_some_iff.1 hr
    obtain⟨_,e⟩:=this
    simpa using e.symm
   subst hq
   show some (if q<k then _ else if q=k then _ else _)=some (if q<k then _ else if q=k then _ else _)
   by_cases h1:q<k
   ·rw[if_pos h1,if_pos h1]
   ·rw[if_neg h1,if_neg h,if_neg h1,if_neg h]
theorem bldX_end:Vg A (A.getD 0 []).length (A.getD 0 []).length 0=Qq A:=by
 unfold Vg Qq
 refine List.map_congr_left fun i hi=>?_
 rw[if_pos (List.mem_range.1 hi)]
end
end Wx

namespace Wx

def Zq (x y:List Rat):Nat→Rat
 |0=>0
 |k+1=>Zq x y k+x.getD k 0*y.getD k 0
def Z8 (j:Nat):Nat→Nat
 |0=>1
 |k+1=>Z8 j k+j+Z8 j k+j+1
theorem Qhd (j:Nat):∀{k n:Nat},k≤n→Z8 j k≤Z8 j n:=by
 intro k n h
 induction n with
 |zero=>rw[Nat.le_zero.1 h]; exact Nat.le_refl _
 |succ n ih=>
  rcases Nat.lt_or_ge k (n+1)with h'|h'
  ·have:=ih (by omega)
   show Z8 j k≤Z8 j n+j+Z8 j n+j+1
   omega
  ·rw[show k=n+1 by omega]
   exact Nat.le_refl _
theorem bd_dot {x y:List Rat} {j1 j2:Nat} (hx:∀k,BdR j1 (x.getD k 0)) (hy:∀k,BdR j2 (y.getD k 0)):∀k,BdR (Z8 (j1+j2) k) (Zq x y k)
 |0=>bd_zero
 |k+1=>(bd_dot hx hy k).add ((hx k).mul (hy k))
theorem dot_skip {x y:List Rat} {k:Nat} (h:(!(decide (x.getD k 0=0))&&!(decide (y.getD k 0=0)))=false):Zq x y (k+1)=Zq x y k:=by
 show Zq x y k+_=_
 have:x.getD k 0=0∨y.getD k 0=0:=by
  by_cases h1:x.getD k 0=0
  ·exact .inl h1
  ·by_cases h2:y.getD k 0=0
   ·exact .inr h2
   ·rw[decide_eq_false h1,decide_eq_false h2]at h
    cases h
 rcases this with h|h<;>rw[h]
 ·rw[Rat.zero_mul,Rat.add_zero]
 ·rw[Rat.mul_zero,Rat.add_zero]
end Wx

namespace Wx
open Go Go.RowKit

def hdr0 (r:RowL):Value:=if r.n=0 then .slice none 0 0 else r.hdr
theorem hdr0_nil {r:RowL} (h:r.n=0):hdr0 r=.slice none 0 0:=if_pos h
theorem V6 {r:RowL} (h:r.n≠0):hdr0 r=r.hdr:=if_neg h
def J3 (R:List RowL):List It:=R.map fun r=>Zm (hdr0 r)
theorem Qb9 (R:List RowL):(J3 R).length=R.length:=List.length_map ..
theorem Qb8 {R:List RowL} {i:Nat} (h:i<R.length):(J3 R)[i]?=some (Zm (hdr0 (Xe R i))):=by
 unfold J3
 rw[List.getElem?_map,Vy h]
 rfl
theorem tops0_set (R:List RowL) (i:Nat) (r:RowL):(J3 R).set i (Zm (hdr0 r))=J3 (R.set i r):=by
 unfold J3
 rw[List.map_set]
structure BldOk (g n:Nat) (R:List RowL) (X:List (List Rat)) (H:List Bk):Prop where
 top:(⟨g,1,false,J3 R⟩:Bk)∈H
 len:R.length=n∧X.length=n
 num:∀i,i<n→(Xe R i).n=(X.getD i []).length
 rows:∀i,i<n→(Xe R i).n≠0→(Xe R i).n≤(Xe R i).cap∧(Xe R i).cap≤maxLen∧(⟨(Xe R i).b,3,true,Xj (X.getD i []) (Xe R i).cap⟩:Bk)∈H∧(Xe R i).b≠g
 apart:∀i j,i<n→j<n→i≠j→(Xe R i).n≠0→(Xe R j).n≠0→(Xe R i).b≠(Xe R j).b
theorem Qay {H:List Bk} {b idx:Nat} {it:It} {e:Bk} (he:e∈H) (hb:e.b≠b):e∈Ye H b idx it:=List.mem_map.2 ⟨e,he,if_neg hb⟩
theorem Qhr {R:List RowL} {i j:Nat} {r:RowL} (hi:i<R.length):Xe (R.set i r) j=if j=i then r else Xe R j:=by
 unfold Xe
 rw[List.getD_eq_getElem?_getD,List.getD_eq_getElem?_getD]
 by_cases h:j=i
 ·subst h
  rw[if_pos rfl,List.getElem?_set_self hi]
  rfl
 ·rw[if_neg h,List.getElem?_set_ne (Ne.symm h)]
theorem K4 {α:Type} {X:List α} {i j:Nat} {x d:α} (hi:i<X.length):(X.set i x).getD j d=if j=i then x else X.getD j d:=by
 rw[List.getD_eq_getElem?_getD,List.getD_eq_getElem?_getD]
 by_cases h:j=i
 ·subst h
  rw[if_pos rfl,List.getElem?_set_self hi]
  rfl
 ·rw[if_neg h,List.getElem?_set_ne (Ne.symm h)]
section
variable {g n:Nat} {R:List RowL} {X:List (List Rat)} {H:List Bk}
theorem BldOk.case (h:BldOk g n R X H) {i:Nat} (hi:i<n):(hdr0 (Xe R i)=.slice none 0 0∧X.getD i []=[])∨∃r:RowL,hdr0 (Xe R i)=r.hdr∧r.n=(X.getD i []).length∧r.n≤r.cap∧r.cap≤maxLen∧(⟨r.b,3,true,Xj (X.getD i []) r.cap⟩:Bk)∈H:=by
 by_cases h0:(Xe R i).n=0
 ·exact .inl ⟨hdr0_nil h0,List.eq_nil_of_length_eq_zero (by rw[← h.num i hi]; exact h0)⟩
 ·obtain⟨k1,k2,k3,_⟩:=h.rows i hi h0
  exact .inr ⟨Xe R i,V6 h0,h.num i hi,k1,k2,k3⟩
theorem BldOk.off (h:BldOk g n R X H) {i:Nat} (hi:i<n) {r':RowL} (hA:(∃r:RowL,hdr0 (Xe R i)=r.hdr∧r'.b=r.b)∨∀e,e∈H→e.b≠r'.b):g≠r'.b:=by
 rcases hA with⟨r,e,e2⟩|hn
 ·by_cases h0:(Xe R i).n=0
  ·rw[hdr0_nil h0]at e
   unfold RowL.hdr at e
   cases e
  ·rw[V6 h0]at e
   have:=hdr_inj _ _ e
   subst this
   rw[e2]
   exact Ne.symm (h.rows i hi h0).2.2.2
 ·exact hn _ h.top
theorem BldOk.put (h:BldOk g n R X H) {i:Nat} (hi:i<n) {l:List Rat} {r':RowL} (hl:0<l.length) (h1:r'.n=l.length) (h2:r'.n≤r'.cap) (h3:r'.cap≤maxLen) (hA:(∃r:RowL,hdr0 (Xe R i)=r.hdr∧r'.b=r.b)∨∀e,e∈H→e.b≠r'.b):
  BldOk g n (R.set i r') (X.set i l) (Ye (Kz H r'.b (Xj l r'.cap)) g i (Zm r'.hdr)):=by
 have hoff:=h.off hi hA
 have hRl:=h.len.1
 have hXl:=h.len.2
 have hr0:r'.n≠0:=by rw[h1]; omega
 have hoth:∀j,j<n→j≠i→(Xe R j).n≠0→(Xe R j).b≠r'.b:=by
  intro j hj hji hj0
  rcases hA with⟨r,e,e2⟩|hn
  ·by_cases h0:(Xe R i).n=0
   ·rw[hdr0_nil h0]at e
    unfold RowL.hdr at e
    cases e
   ·rw[V6 h0]at e
    have:=hdr_inj _ _ e
    subst this
    rw[e2]
    exact h.apart j i hj hi hji hj0 h0
  ·exact hn _ (h.rows j hj hj0).2.2.1
 have eR:∀j,Xe (R.set i r') j=if j=i then r' else Xe R j:=fun j=>Qhr (by omega)
 have eX:∀j,(X.set i l).getD j []=if j=i then l else X.getD j []:=fun j=>K4 (by omega)
 refine⟨?_,by rw[List.length_set,List.length_set]; exact h.len,fun j hj=>?_,fun j hj hj0=>?_,fun j q hj hq hne hj0 hq0=>?_⟩
 ·rw[← tops0_set,V6 hr0]
  exact hset_mem (Vk h.top hoff) rfl
 ·rw[eR,eX]
  split
  ·exact h1
  ·exact h.num j hj
 ·rw[eR]at hj0 ⊢
  rw[eX]
  split at hj0
  ·rename_i e
   rw[if_pos e,if_pos e]
   exact⟨h2,h3,Qay Qei (Ne.symm hoff),Ne.symm hoff⟩
  ·rename_i e
   rw[if_neg e,if_neg e]
   obtain⟨k1,k2,k3,k4⟩:=h.rows j hj hj0
   exact⟨k1,k2,Qay (Vk k3 (hoth j hj e hj0)) k4,k4⟩
 ·rw[eR]at hj0 ⊢
  rw[eR]at hq0 ⊢
  by_cases e1:j=i
  ·have e2:q≠i:=fun e=>hne (e1.trans e.symm)
   rw[if_pos e1,if_neg e2]
   rw[if_neg e2]at hq0
   exact Ne.symm (hoth q hq e2 hq0)
  ·rw[if_neg e1]at hj0 ⊢
   by_cases e2:q=i
   ·rw[if_pos e2]
    exact hoth j hj e1 hj0
   ·rw[if_neg e2]at hq0 ⊢
    exact h.apart j q hj hq hne hj0 hq0
theorem BldOk.append (h:BldOk g n R X H) {i:Nat} (hi:i<n) {l':List Rat} {r':RowL} (hl:0<l'.length) (hA:AppOk H (hdr0 (Xe R i)) (X.getD i []) l' r'):
  BldOk g n (R.set i r') (X.set i (X.getD i []++l')) (Ye (Kz H r'.b (Xj (X.getD i []++l') r'.cap)) g i (Zm r'.hdr)):=
 h.put hi (by rw[List.length_append]; omega) (by rw[List.length_append]; exact hA.1) hA.2.1 hA.2.2.1 hA.2.2.2
theorem bld_nil (g n:Nat):BldOk g n (List.replicate n ⟨0,0,0⟩) (List.replicate n []) [⟨g,1,false,List.replicate n (Zm (.slice none 0 0))⟩]:=by
 have e:∀i,Xe (List.replicate n ⟨0,0,0⟩) i=⟨0,0,0⟩:=fun i=>by
  unfold Xe
  rw[List.getD_eq_getElem?_getD,List.getElem?_replicate]
  split<;>rfl
 refine⟨?_,by simp,fun i hi=>?_,fun i hi h0=>?_,fun i j _ _ _ h0=>?_⟩
 ·unfold J3
  rw[List.map_replicate]
  exact List.mem_singleton.2 rfl
 ·rw[e,List.getD_eq_getElem?_getD,List.getElem?_replicate]
  split<;>rfl
 ·rw[e]at h0
  exact absurd rfl h0
 ·rw[e]at h0
  exact absurd rfl h0
theorem BldOk.read {cap:Nat} (h:BldOk g n R X H) (hn:n≤cap) (hm:cap≤maxLen) (h0:∀i,i<n→0<(X.getD i []).length):∀B w,HpOk B w H→Qc 1 false n (fun i=>Qe (X.getD i [])) w (.slice (some ⟨g,0,none⟩) n cap):=by
 intro B w hH
 obtain⟨cs,T,h1,h2,_,h4⟩:=hH.2.2 _ h.top
 have h1:w.heap[g]?=some (.cells cs.toArray T (0,0)):=h1
 have h2:(J3 R).length*1≤cs.length:=h2
 rw[Qb9,h.len.1]at h2
 refine⟨_,_,rfl,hn,hm,fun _=>⟨g,0,rfl,fun i hi=>⟨(cs.drop i).take 1,?_,fun j v hj=>?_,?_⟩⟩⟩
 ·rw[List.length_take,List.length_drop]
  omega
 ·rw[Nat.mul_one,Nat.zero_add]
  exact W4 h1 _ _ j v hj
 ·have h5:=h4 i _ (Qb8 (by rw[h.len.1]; exact hi))
  have h5:Xd false ((cs.drop (i*1)).take 1)=hdr0 (Xe R i):=h5
  rw[Nat.mul_one]at h5
  have hr0:(Xe R i).n≠0:=by
   have:=h0 i hi
   rw[h.num i hi]
   omega
  obtain⟨k1,k2,k3,_⟩:=h.rows i hi hr0
  show Qe (X.getD i []) w (Xd false ((cs.drop i).take 1))
  rw[h5,V6 hr0]
  exact heap_rats hH k3 (h.num i hi) k1 k2
theorem BldOk.mat {cap:Nat} (h:BldOk g n R X H) (hn:n≤cap) (hm:cap≤maxLen) (h0:∀i,i<n→0<(X.getD i []).length):MatOk g cap R X H:=by
 have hr0:∀i,i<n→(Xe R i).n≠0:=fun i hi=>by
  have:=h0 i hi
  rw[h.num i hi]
  omega
 have get:∀{i:Nat} {r:RowL},R[i]?=some r→i<n∧r=Xe R i:=fun {i r} hr=>by
  have hil:i<R.length:=by
   rcases Nat.lt_or_ge i R.length with h'|h'
   ·exact h'
   ·rw[List.getElem?_eq_none h']at hr; cases hr
  rw[Vy hil]at hr
  exact⟨h.len.1▸hil,(Option.some.inj hr).symm⟩
 have et:J3 R=Jb R:=by
  unfold J3 Jb
  refine List.map_congr_left fun r hr=>?_
  obtain⟨i,hi⟩:=List.mem_iff_getElem?.1 hr
  obtain⟨hil,rfl⟩:=get hi
  rw[V6 (hr0 i hil)]
 refine⟨by rw[← et]; exact h.top,fun i r hr=>?_,h.len.1.trans h.len.2.symm,fun i r hr=>?_,fun i j r q hr hq hne=>?_,fun r hr=>?_,by rw[h.len.1]; exact⟨hn,hm⟩⟩
 ·obtain⟨hi,rfl⟩:=get hr
  exact(h.rows i hi (hr0 i hi)).2.2.1
 ·obtain⟨hi,rfl⟩:=get hr
  exact⟨h.num i hi,(h.rows i hi (hr0 i hi)).1,(h.rows i hi (hr0 i hi)).2.1⟩
 ·obtain⟨hi,rfl⟩:=get hr
  obtain⟨hj,rfl⟩:=get hq
  exact h.apart i j hi hj hne (hr0 i hi) (hr0 j hj)
 ·obtain⟨i,hi⟩:=List.mem_iff_getElem?.1 hr
  obtain⟨hil,rfl⟩:=get hi
  exact(h.rows i hil (hr0 i hil)).2.2.2
theorem MatOk.bld {cap:Nat} (h:MatOk g cap R X H) (h0:∀i,i<X.length→0<(X.getD i []).length):BldOk g X.length R X H:=by
 have hr:∀i,i<X.length→R[i]?=some (Xe R i):=fun i hi=>Vy (by rw[h.len]; exact hi)
 have et:J3 R=Jb R:=by
  unfold J3 Jb
  refine List.map_congr_left fun r hm=>?_
  obtain⟨i,hi⟩:=List.mem_iff_getElem?.1 hm
  have hil:i<X.length:=by
   rw[← h.len]
   rcases Nat.lt_or_ge i R.length with h'|h'
   ·exact h'
   ·rw[List.getElem?_eq_none h']at hi; cases hi
  rw[V6]
  rw[(h.fit i r hi).1]
  have:=h0 i hil
  omega
 refine⟨by rw[et]; exact h.top,⟨h.len,rfl⟩,fun i hi=>(h.fit i _ (hr i hi)).1,fun i hi _=>⟨(h.fit i _ (hr i hi)).2.1,(h.fit i _ (hr i hi)).2.2,h.rows i _ (hr i hi),h.off _ (List.mem_of_getElem? (hr i hi))⟩,fun i j hi hj hne _ _=>h.apart i j _ _ (hr i hi) (hr j hj) hne⟩
end
end Wx
