import Ieee.Arith
import GoSem.Core.Float
import Derived.Test.YtpiniclogfefjaaCSylvesterSemApp
namespace Wx
open Go Go.RowKit

section
variable {P:Program} {ops:Array Oper} {ms:List Nat} {c:Cfg} {V:List Vr} {A:List Al} {G:List Ent} {i:Nat}
variable {d:Nat} {x y:Operand} {ty:TypeId} {pos:String} {aft:Array Edge}
end
end Wx

namespace Wx
open Ieee

end Wx

namespace Wx
open Ieee

end Wx

namespace Wx
open Go Go.RowKit

section
variable {P:Program} {ops:Array Oper} {ms:List Nat} {c:Cfg} {V:List Vr} {A:List Al} {G:List Ent} {i:Nat}
variable {d:Nat} {x y:Operand} {ty:TypeId} {pos:String} {aft:Array Edge}
def maxZ (m n:Int):Int:=if n>m then n else m
theorem op_max2 {ts:Array TypeId} {m n:Int} (h1:Has ms G i x (pI m)) (h2:Has ms G i y (pI n)) (hp:Post G i (pI (maxZ m n))):Xf P ops ms c V A G i ⟨some d,.call ⟨.builtin .max,#[x,y],ts⟩,ty,pos,aft,none⟩:=
 op_val2 rfl rfl rfl rfl h1 h2 hp fun ρ w h1 h2=>⟨.int .i64 (maxZ m n),by
  have h1:ρ x=.int .i64 m:=h1
  have h2:ρ y=.int .i64 n:=h2
  show(do let d ← resolve ρ ⟨.builtin .max,#[x,y],ts⟩ ty; invoke d.target d.args).run P w=_
  simp only[resolve,invoke,pure_bind,builtin]
  rw[show(#[x,y]:Array Operand).map ρ=#[ρ x,ρ y] by simp,h1,h2]
  rfl,fun _ _ _=>rfl⟩
end
end Wx

namespace Wx
open Go Go.RowKit

def Ut (r:RowL):Value:=if r.n=0 then .slice none 0 0 else r.hdr
theorem hdr0_nil {r:RowL} (h:r.n=0):Ut r=.slice none 0 0:=if_pos h
theorem V8 {r:RowL} (h:r.n≠0):Ut r=r.hdr:=if_neg h
def K3 (R:List RowL):List It:=R.map fun r=>Z2 (Ut r)
theorem Qej (R:List RowL):(K3 R).length=R.length:=List.length_map ..
theorem Qei {R:List RowL} {i:Nat} (h:i<R.length):(K3 R)[i]?=some (Z2 (Ut (Q0 R i))):=by
 unfold K3
 rw[List.getElem?_map,Kc h]
 rfl
theorem tops0_set (R:List RowL) (i:Nat) (r:RowL):(K3 R).set i (Z2 (Ut r))=K3 (R.set i r):=by
 unfold K3
 rw[List.map_set]
structure BldOk (g n:Nat) (R:List RowL) (X:List (List Rat)) (H:List Bk):Prop where
 top:(⟨g,1,false,K3 R⟩:Bk)∈H
 len:R.length=n∧X.length=n
 num:∀i,i<n→(Q0 R i).n=(X.getD i []).length
 rows:∀i,i<n→(Q0 R i).n≠0→(Q0 R i).n≤(Q0 R i).cap∧(Q0 R i).cap≤maxLen∧(⟨(Q0 R i).b,3,true,Qw (X.getD i []) (Q0 R i).cap⟩:Bk)∈H∧(Q0 R i).b≠g
 apart:∀i j,i<n→j<n→i≠j→(Q0 R i).n≠0→(Q0 R j).n≠0→(Q0 R i).b≠(Q0 R j).b
theorem Qa6 {H:List Bk} {b idx:Nat} {it:It} {e:Bk} (he:e∈H) (hb:e.b≠b):e∈Xs H b idx it:=List.mem_map.2 ⟨e,he,if_neg hb⟩
theorem rowAt_set {R:List RowL} {i j:Nat} {r:RowL} (hi:i<R.length):Q0 (R.set i r) j=if j=i then r else Q0 R j:=by
 unfold Q0
 rw[List.getD_eq_getElem?_getD,List.getD_eq_getElem?_getD]
 by_cases h:j=i
 ·subst h
  rw[if_pos rfl,List.getElem?_set_self hi]
  rfl
 ·rw[if_neg h,List.getElem?_set_ne (Ne.symm h)]
theorem Zk {α:Type} {X:List α} {i j:Nat} {x d:α} (hi:i<X.length):(X.set i x).getD j d=if j=i then x else X.getD j d:=by
 rw[List.getD_eq_getElem?_getD,List.getD_eq_getElem?_getD]
 by_cases h:j=i
 ·subst h
  rw[if_pos rfl,List.getElem?_set_self hi]
  rfl
 ·rw[if_neg h,List.getElem?_set_ne (Ne.symm h)]
section
variable {g n:Nat} {R:List RowL} {X:List (List Rat)} {H:List Bk}
theorem BldOk.case (h:BldOk g n R X H) {i:Nat} (hi:i<n):(Ut (Q0 R i)=.slice none 0 0∧X.getD i []=[])∨∃r:RowL,Ut (Q0 R i)=r.hdr∧r.n=(X.getD i []).length∧r.n≤r.cap∧r.cap≤maxLen∧(⟨r.b,3,true,Qw (X.getD i []) r.cap⟩:Bk)∈H:=by
 by_cases h0:(Q0 R i).n=0
 ·exact .inl ⟨hdr0_nil h0,List.eq_nil_of_length_eq_zero (by rw[← h.num i hi]; exact h0)⟩
 ·obtain⟨k1,k2,k3,_⟩:=h.rows i hi h0
  exact .inr ⟨Q0 R i,V8 h0,h.num i hi,k1,k2,k3⟩
theorem BldOk.off (h:BldOk g n R X H) {i:Nat} (hi:i<n) {r':RowL} (hA:(∃r:RowL,Ut (Q0 R i)=r.hdr∧r'.b=r.b)∨∀e,e∈H→e.b≠r'.b):g≠r'.b:=by
 rcases hA with⟨r,e,e2⟩|hn
 ·by_cases h0:(Q0 R i).n=0
  ·rw[hdr0_nil h0]at e
   unfold RowL.hdr at e
   cases e
  ·rw[V8 h0]at e
   have:=hdr_inj _ _ e
   subst this
   rw[e2]
   exact Ne.symm (h.rows i hi h0).2.2.2
 ·exact hn _ h.top
theorem BldOk.put (h:BldOk g n R X H) {i:Nat} (hi:i<n) {l:List Rat} {r':RowL} (hl:0<l.length) (h1:r'.n=l.length) (h2:r'.n≤r'.cap) (h3:r'.cap≤maxLen) (hA:(∃r:RowL,Ut (Q0 R i)=r.hdr∧r'.b=r.b)∨∀e,e∈H→e.b≠r'.b):
  BldOk g n (R.set i r') (X.set i l) (Xs (appH H r'.b (Qw l r'.cap)) g i (Z2 r'.hdr)):=by
 have hoff:=h.off hi hA
 have hRl:=h.len.1
 have hXl:=h.len.2
 have hr0:r'.n≠0:=by rw[h1]; omega
 have hoth:∀j,j<n→j≠i→(Q0 R j).n≠0→(Q0 R j).b≠r'.b:=by
  intro j hj hji hj0
  rcases hA with⟨r,e,e2⟩|hn
  ·by_cases h0:(Q0 R i).n=0
   ·rw[hdr0_nil h0]at e
    unfold RowL.hdr at e
    cases e
   ·rw[V8 h0]at e
    have:=hdr_inj _ _ e
    subst this
    rw[e2]
    exact h.apart j i hj hi hji hj0 h0
  ·exact hn _ (h.rows j hj hj0).2.2.1
 have eR:∀j,Q0 (R.set i r') j=if j=i then r' else Q0 R j:=fun j=>rowAt_set (by omega)
 have eX:∀j,(X.set i l).getD j []=if j=i then l else X.getD j []:=fun j=>Zk (by omega)
 refine⟨?_,by rw[List.length_set,List.length_set]; exact h.len,fun j hj=>?_,fun j hj hj0=>?_,fun j q hj hq hne hj0 hq0=>?_⟩
 ·rw[← tops0_set,V8 hr0]
  exact Qbp (Un h.top hoff) rfl
 ·rw[eR,eX]
  split
  ·exact h1
  ·exact h.num j hj
 ·rw[eR]at hj0 ⊢
  rw[eX]
  split at hj0
  ·rename_i e
   rw[if_pos e,if_pos e]
   exact⟨h2,h3,Qa6 appH_mem (Ne.symm hoff),Ne.symm hoff⟩
  ·rename_i e
   rw[if_neg e,if_neg e]
   obtain⟨k1,k2,k3,k4⟩:=h.rows j hj hj0
   exact⟨k1,k2,Qa6 (Un k3 (hoth j hj e hj0)) k4,k4⟩
 ·rw[eR]at hj0 ⊢
  rw[eR]at hq0 ⊢
  by_cases e1:j=i
  ·have e2:q≠i:=fun e=>hne (e1.trans e.symm)
   rw[if_pos e1,if_neg e2]
   rw[if_neg e2]at hq0
   exact Ne.symm (hoth q hq e2 hq0)
  ·rw[if_neg e1]at hj0 ⊢
   by_cases e2:q=i
   ·rw[if_pos e2]
    exact hoth j hj e1 hj0
   ·rw[if_neg e2]at hq0 ⊢
    exact h.apart j q hj hq hne hj0 hq0
theorem BldOk.append (h:BldOk g n R X H) {i:Nat} (hi:i<n) {l':List Rat} {r':RowL} (hl:0<l'.length) (hA:AppOk H (Ut (Q0 R i)) (X.getD i []) l' r'):
  BldOk g n (R.set i r') (X.set i (X.getD i []++l')) (Xs (appH H r'.b (Qw (X.getD i []++l') r'.cap)) g i (Z2 r'.hdr)):=
 h.put hi (by rw[List.length_append]; omega) (by rw[List.length_append]; exact hA.1) hA.2.1 hA.2.2.1 hA.2.2.2
theorem bld_nil (g n:Nat):BldOk g n (List.replicate n ⟨0,0,0⟩) (List.replicate n []) [⟨g,1,false,List.replicate n (Z2 (.slice none 0 0))⟩]:=by
 have e:∀i,Q0 (List.replicate n ⟨0,0,0⟩) i=⟨0,0,0⟩:=fun i=>by
  unfold Q0
  rw[List.getD_eq_getElem?_getD,List.getElem?_replicate]
  split<;>rfl
 refine⟨?_,by simp,fun i hi=>?_,fun i hi h0=>?_,fun i j _ _ _ h0=>?_⟩
 ·unfold K3
  rw[List.map_replicate]
  exact List.mem_singleton.2 rfl
 ·rw[e,List.getD_eq_getElem?_getD,List.getElem?_replicate]
  split<;>rfl
 ·rw[e]at h0
  exact absurd rfl h0
 ·rw[e]at h0
  exact absurd rfl h0
theorem BldOk.read {cap:Nat} (h:BldOk g n R X H) (hn:n≤cap) (hm:cap≤maxLen) (h0:∀i,i<n→0<(X.getD i []).length):∀B w,HpOk B w H→Qg 1 false n (fun i=>Qd (X.getD i [])) w (.slice (some ⟨g,0,none⟩) n cap):=by
 intro B w hH
 obtain⟨cs,T,h1,h2,_,h4⟩:=hH.2.2 _ h.top
 have h1:w.heap[g]?=some (.cells cs.toArray T (0,0)):=h1
 have h2:(K3 R).length*1≤cs.length:=h2
 rw[Qej,h.len.1]at h2
 refine⟨_,_,rfl,hn,hm,fun _=>⟨g,0,rfl,fun i hi=>⟨(cs.drop i).take 1,?_,fun j v hj=>?_,?_⟩⟩⟩
 ·rw[List.length_take,List.length_drop]
  omega
 ·rw[Nat.mul_one,Nat.zero_add]
  exact V5 h1 _ _ j v hj
 ·have h5:=h4 i _ (Qei (by rw[h.len.1]; exact hi))
  have h5:Q6 false ((cs.drop (i*1)).take 1)=Ut (Q0 R i):=h5
  rw[Nat.mul_one]at h5
  have hr0:(Q0 R i).n≠0:=by
   have:=h0 i hi
   rw[h.num i hi]
   omega
  obtain⟨k1,k2,k3,_⟩:=h.rows i hi hr0
  show Qd (X.getD i []) w (Q6 false ((cs.drop i).take 1))
  rw[h5,V8 hr0]
  exact heap_rats hH k3 (h.num i hi) k1 k2
theorem BldOk.mat {cap:Nat} (h:BldOk g n R X H) (hn:n≤cap) (hm:cap≤maxLen) (h0:∀i,i<n→0<(X.getD i []).length):MatOk g cap R X H:=by
 have hr0:∀i,i<n→(Q0 R i).n≠0:=fun i hi=>by
  have:=h0 i hi
  rw[h.num i hi]
  omega
 have get:∀{i:Nat} {r:RowL},R[i]?=some r→i<n∧r=Q0 R i:=fun {i r} hr=>by
  have hil:i<R.length:=by
   rcases Nat.lt_or_ge i R.length with h'|h'
   ·exact h'
   ·rw[List.getElem?_eq_none h']at hr; cases hr
  rw[Kc hil]at hr
  exact⟨h.len.1▸hil,(Option.some.inj hr).symm⟩
 have et:K3 R=Y7 R:=by
  unfold K3 Y7
  refine List.map_congr_left fun r hr=>?_
  obtain⟨i,hi⟩:=List.mem_iff_getElem?.1 hr
  obtain⟨hil,rfl⟩:=get hi
  rw[V8 (hr0 i hil)]
 refine⟨by rw[← et]; exact h.top,fun i r hr=>?_,h.len.1.trans h.len.2.symm,fun i r hr=>?_,fun i j r q hr hq hne=>?_,fun r hr=>?_,by rw[h.len.1]; exact⟨hn,hm⟩⟩
 ·obtain⟨hi,rfl⟩:=get hr
  exact(h.rows i hi (hr0 i hi)).2.2.1
 ·obtain⟨hi,rfl⟩:=get hr
  exact⟨h.num i hi,(h.rows i hi (hr0 i hi)).1,(h.rows i hi (hr0 i hi)).2.1⟩
 ·obtain⟨hi,rfl⟩:=get hr
  obtain⟨hj,rfl⟩:=get hq
  exact h.apart i j hi hj hne (hr0 i hi) (hr0 j hj)
 ·obtain⟨i,hi⟩:=List.mem_iff_getElem?.1 hr
  obtain⟨hil,rfl⟩:=get hi
  exact(h.rows i hil (hr0 i hil)).2.2.2
end
end Wx

namespace Wx

def Wu (A:List (List Rat)) (k:Nat):List Rat:=A.map fun r=>r.getD k 0
theorem W2 (A:List (List Rat)) (k:Nat):(Wu A k).length=A.length:=List.length_map ..
theorem Qap {A:List (List Rat)} {k i:Nat} (h:i<A.length):(Wu A k).getD i 0=(A.getD i []).getD k 0:=by
 unfold Wu
 rw[List.getD_eq_getElem?_getD,List.getElem?_map,List.getElem?_eq_getElem h,List.getD_eq_getElem?_getD,List.getD_eq_getElem?_getD,List.getElem?_eq_getElem h]
 simp[List.getD_eq_getElem?_getD]
def Qp (A:List (List Rat)):List (List Rat):=(List.range (A.getD 0 []).length).map (Wu A)
theorem Wb (A:List (List Rat)):(Qp A).length=(A.getD 0 []).length:=by unfold Qp; rw[List.length_map,List.length_range]
theorem Qay {A:List (List Rat)} {k:Nat} (h:k<(A.getD 0 []).length):(Qp A).getD k []=Wu A k:=by
 unfold Qp
 rw[List.getD_eq_getElem?_getD,List.getElem?_map,List.getElem?_range h]
 rfl
def Km (A:List (List Rat)) (n k j:Nat):List (List Rat):=(List.range n).map fun i=>if i<k then Wu A i else if i=k then(Wu A i).take j else[]
section
variable {A:List (List Rat)} {n k j:Nat}
theorem bldX_len:(Km A n k j).length=n:=by unfold Km; rw[List.length_map,List.length_range]
theorem bldX_get {i:Nat} (h:i<n):(Km A n k j).getD i []=if i<k then Wu A i else if i=k then(Wu A i).take j else[]:=by
 unfold Km
 rw[List.getD_eq_getElem?_getD,List.getElem?_map,List.getElem?_range h]
 rfl
theorem bldX_zero:Km A n 0 0=List.replicate n []:=by
 unfold Km
 apply List.ext_getElem?
 intro i
 rw[List.getElem?_map,List.getElem?_replicate]
 by_cases h:i<n
 ·rw[List.getElem?_range h,if_pos h]
  show some (if i<0 then _ else if i=0 then(Wu A i).take 0 else[])=_
  rw[if_neg (Nat.not_lt_zero _),List.take_zero]
  split<;>rfl
 ·rw[List.getElem?_eq_none (by simpa using h),if_neg h]
  rfl
theorem bldX_next:Km A n k A.length=Km A n (k+1) 0:=by
 unfold Km
 refine List.map_congr_left fun i _=>?_
 by_cases h1:i<k
 ·rw[if_pos h1,if_pos (by omega)]
 ·rw[if_neg h1]
  by_cases h2:i=k
  ·rw[if_pos h2,if_pos (by omega),← W2 A i,List.take_length]
  ·rw[if_neg h2,if_neg (by omega)]
   split
   ·rw[List.take_zero]
   ·rfl
theorem bldX_step (hk:k<n) (hj:j<A.length):(Km A n k j).set k ((Km A n k j).getD k []++[(A.getD j []).getD k 0])=Km A n k (j+1):=by
 rw[bldX_get hk,if_neg (Nat.lt_irrefl _),if_pos rfl]
 apply List.ext_getElem?
 intro i
 by_cases h:i=k
 ·subst h
  rw[List.getElem?_set_self (by rw[bldX_len]; exact hk)]
  unfold Km
  rw[List.getElem?_map,List.getElem?_range hk]
  show _=some (if i<i then _ else if i=i then(Wu A i).take (j+1)else[])
  rw[if_neg (Nat.lt_irrefl _),if_pos rfl,List.take_add_one]
  congr 2
  have hjl:j<(Wu A i).length:=by rw[W2]; exact hj
  rw[← Qap hj,List.getElem?_eq_getElem hjl,List.getD_eq_getElem?_getD,List.getElem?_eq_getElem hjl]
  rfl
 ·rw[List.getElem?_set_ne (Ne.symm h)]
  unfold Km
  rw[List.getElem?_map,List.getElem?_map]
  cases hr:(List.range n)[i]? with
  |none=>rfl
  |some q=>
   have hq:q=i:=by
    have:=List.getElem?_eq_some_iff.1 hr
    obtain⟨_,e⟩:=this
    simpa using e.symm
   subst hq
   show some (if q<k then _ else if q=k then _ else _)=some (if q<k then _ else if q=k then _ else _)
   by_cases h1:q<k
   ·rw[if_pos h1,if_pos h1]
   ·rw[if_neg h1,if_neg h,if_neg h1,if_neg h]
theorem bldX_end:Km A (A.getD 0 []).length (A.getD 0 []).length 0=Qp A:=by
 unfold Km Qp
 refine List.map_congr_left fun i hi=>?_
 rw[if_pos (List.mem_range.1 hi)]
end
end Wx

namespace Wx
open Go Go.RowKit Go.Proofs

theorem denOf_inj {m n:Nat} (hm:0<m) (hn:0<n) (h:Qm m=Qm n):m=n:=by
 unfold Qm at h
 split at h<;>split at h<;>omega
theorem Qa8 (x y:Rat):x=y↔decide (x.num<0)=decide (y.num<0)∧x.num.natAbs=y.num.natAbs∧Qm x.den=Qm y.den:=by
 refine⟨fun h=>by subst h; exact⟨rfl,rfl,rfl⟩,fun⟨h1,h2,h3⟩=>?_⟩
 have hd:=denOf_inj x.den_pos y.den_pos h3
 refine Rat.ext ?_ hd
 rw[← sg_mk x.num,← sg_mk y.num,h1,h2]
theorem cmpI_eq (m:Nat):Yv m m=0:=by unfold Yv; simp
theorem cmpI_ne {m n:Nat} (h:m≠n):∃z,Yv m n=z∧(z==0)=false:=by
 refine⟨_,rfl,?_⟩
 unfold Yv
 rcases Nat.lt_or_gt_of_ne h with h1|h1
 ·rw[if_pos h1]; rfl
 ·rw[if_neg (by omega)]; split<;>first|rfl|omega
theorem same_0 (w:World) (vx vy:Value) (x y:Rat) (hx:IsRat w vx x) (hy:IsRat w vy y) (h1:¬decide (x.num<0)=decide (y.num<0)):Calls Try.prog 18 #[vx,vy] w (Zv w (.bool false)):=by
 obtain⟨vx1,vx2,rfl,hxa,hxb⟩:=id hx
 obtain⟨Ax1,cx1,rfl,_⟩:=id hxa
 obtain⟨Ax2,cx2,rfl,_⟩:=id hxb
 obtain⟨vy1,vy2,rfl,hya,hyb⟩:=id hy
 obtain⟨Ay1,cy1,rfl,_⟩:=id hya
 obtain⟨Ay2,cy2,rfl,_⟩:=id hyb
 have hf:(decide (x.num<0)==decide (y.num<0))=false:=beq_eq_false_iff_ne.2 h1
 clear h1
 go_enter Try.func18,Try.ntmps18
 go_wp2
 go_ret
 exact⟨rfl,(Below.alloc (Below.refl _ _) (Nat.le_refl _) _).alloc (by simp) _⟩
theorem same_1 (w:World) (vx vy:Value) (x y:Rat) (hx:IsRat w vx x) (hy:IsRat w vy y) (h1:decide (x.num<0)=decide (y.num<0)) (h2:¬x.num.natAbs=y.num.natAbs):Calls Try.prog 18 #[vx,vy] w (Zv w (.bool false)):=by
 obtain⟨vx1,vx2,rfl,hxa,hxb⟩:=id hx
 obtain⟨Ax1,cx1,rfl,_⟩:=id hxa
 obtain⟨Ax2,cx2,rfl,_⟩:=id hxb
 obtain⟨vy1,vy2,rfl,hya,hyb⟩:=id hy
 obtain⟨Ay1,cy1,rfl,_⟩:=id hya
 obtain⟨Ay2,cy2,rfl,_⟩:=id hyb
 have hf:(decide (x.num<0)==decide (y.num<0))=true:=beq_iff_eq.2 h1
 obtain⟨z,hz,hz0⟩:=cmpI_ne h2
 have HZ:=bx hz
 clear h1 h2 hz
 go_enter Try.func18,Try.ntmps18
 go_wp2_with fail
 obtain⟨w1,e1,o1,b1,s1⟩:=Yz w (.bool (decide (x.num<0))) (.slice Ax1 (digs Qb x.num.natAbs).length cx1) (.slice Ax2 (digs Qb (Qm x.den)).length cx2) 32
 obtain⟨w2,e2,o2,b2,s2⟩:=Yz w1 (.bool (decide (y.num<0))) (.slice Ay1 (digs Qb y.num.natAbs).length cy1) (.slice Ay2 (digs Qb (Qm y.den)).length cy2) 32
 rw[e1,e2]
 rw[s1]at o2
 have p1:=o1.gone b2
 have B:=b1.trans (b2.mono b1.size)
 have k0:=p1.c0
 have k1:=p1.c1
 have k2:=p1.c2
 have k3:=o2.c0
 have k4:=o2.c1
 have k5:=o2.c2
 have hc:=Wp w2 _ _ _ _ (hxa.below B) (hya.below B)
 rw[HZ.out]at hc
 refine hc.mono ?_
 clear hc
 rintro e w3 ⟨rfl,hb⟩
 have B3:=B.trans (hb.mono B.size)
 have p13:=p1.gone hb
 have p23:=o2.gone hb
 clear k0 k1 k2 k3 k4 k5
 go_wp2
 go_ret
 exact⟨rfl,B3⟩
theorem same_2 (w:World) (vx vy:Value) (x y:Rat) (hx:IsRat w vx x) (hy:IsRat w vy y) (h1:decide (x.num<0)=decide (y.num<0)) (h2:x.num.natAbs=y.num.natAbs) (h3:¬Qm x.den=Qm y.den):Calls Try.prog 18 #[vx,vy] w (Zv w (.bool false)):=by
 obtain⟨vx1,vx2,rfl,hxa,hxb⟩:=id hx
 obtain⟨Ax1,cx1,rfl,_⟩:=id hxa
 obtain⟨Ax2,cx2,rfl,_⟩:=id hxb
 obtain⟨vy1,vy2,rfl,hya,hyb⟩:=id hy
 obtain⟨Ay1,cy1,rfl,_⟩:=id hya
 obtain⟨Ay2,cy2,rfl,_⟩:=id hyb
 have hf:(decide (x.num<0)==decide (y.num<0))=true:=beq_iff_eq.2 h1
 have H2:=bx (show Yv x.num.natAbs y.num.natAbs=0 by rw[h2]; exact cmpI_eq _)
 obtain⟨z,hz,hz0⟩:=cmpI_ne h3
 have HZ:=bx hz
 clear h1 h2 h3 hz
 go_enter Try.func18,Try.ntmps18
 go_wp2_with fail
 obtain⟨w1,e1,o1,b1,s1⟩:=Yz w (.bool (decide (x.num<0))) (.slice Ax1 (digs Qb x.num.natAbs).length cx1) (.slice Ax2 (digs Qb (Qm x.den)).length cx2) 32
 obtain⟨w2,e2,o2,b2,s2⟩:=Yz w1 (.bool (decide (y.num<0))) (.slice Ay1 (digs Qb y.num.natAbs).length cy1) (.slice Ay2 (digs Qb (Qm y.den)).length cy2) 32
 rw[e1,e2]
 rw[s1]at o2
 have p1:=o1.gone b2
 have B:=b1.trans (b2.mono b1.size)
 have k0:=p1.c0
 have k1:=p1.c1
 have k2:=p1.c2
 have k3:=o2.c0
 have k4:=o2.c1
 have k5:=o2.c2
 have hc:=Wp w2 _ _ _ _ (hxa.below B) (hya.below B)
 rw[H2.out]at hc
 refine hc.mono ?_
 clear hc
 rintro e w3 ⟨rfl,hb⟩
 have B3:=B.trans (hb.mono B.size)
 have p13:=p1.gone hb
 have p23:=o2.gone hb
 clear k0 k1 k2 k3 k4 k5
 have k0:=p13.c0
 have k1:=p13.c1
 have k2:=p13.c2
 have k3:=p23.c0
 have k4:=p23.c1
 have k5:=p23.c2
 go_wp2_with fail
 have hc:=Wp w3 _ _ _ _ (hxb.below B3) (hyb.below B3)
 rw[HZ.out]at hc
 refine hc.mono ?_
 clear hc
 rintro e w4 ⟨rfl,hb4⟩
 go_wp2
 go_ret
 exact⟨rfl,B3.trans (hb4.mono B3.size)⟩
theorem same_3 (w:World) (vx vy:Value) (x y:Rat) (hx:IsRat w vx x) (hy:IsRat w vy y) (h1:decide (x.num<0)=decide (y.num<0)) (h2:x.num.natAbs=y.num.natAbs) (h3:Qm x.den=Qm y.den):Calls Try.prog 18 #[vx,vy] w (Zv w (.bool true)):=by
 obtain⟨vx1,vx2,rfl,hxa,hxb⟩:=id hx
 obtain⟨Ax1,cx1,rfl,_⟩:=id hxa
 obtain⟨Ax2,cx2,rfl,_⟩:=id hxb
 obtain⟨vy1,vy2,rfl,hya,hyb⟩:=id hy
 obtain⟨Ay1,cy1,rfl,_⟩:=id hya
 obtain⟨Ay2,cy2,rfl,_⟩:=id hyb
 have hf:(decide (x.num<0)==decide (y.num<0))=true:=beq_iff_eq.2 h1
 have H2:=bx (show Yv x.num.natAbs y.num.natAbs=0 by rw[h2]; exact cmpI_eq _)
 have HZ:=bx (show Yv (Qm x.den) (Qm y.den)=0 by rw[h3]; exact cmpI_eq _)
 clear h1 h2 h3
 go_enter Try.func18,Try.ntmps18
 go_wp2_with fail
 obtain⟨w1,e1,o1,b1,s1⟩:=Yz w (.bool (decide (x.num<0))) (.slice Ax1 (digs Qb x.num.natAbs).length cx1) (.slice Ax2 (digs Qb (Qm x.den)).length cx2) 32
 obtain⟨w2,e2,o2,b2,s2⟩:=Yz w1 (.bool (decide (y.num<0))) (.slice Ay1 (digs Qb y.num.natAbs).length cy1) (.slice Ay2 (digs Qb (Qm y.den)).length cy2) 32
 rw[e1,e2]
 rw[s1]at o2
 have p1:=o1.gone b2
 have B:=b1.trans (b2.mono b1.size)
 have k0:=p1.c0
 have k1:=p1.c1
 have k2:=p1.c2
 have k3:=o2.c0
 have k4:=o2.c1
 have k5:=o2.c2
 have hc:=Wp w2 _ _ _ _ (hxa.below B) (hya.below B)
 rw[H2.out]at hc
 refine hc.mono ?_
 clear hc
 rintro e w3 ⟨rfl,hb⟩
 have B3:=B.trans (hb.mono B.size)
 have p13:=p1.gone hb
 have p23:=o2.gone hb
 clear k0 k1 k2 k3 k4 k5
 have k0:=p13.c0
 have k1:=p13.c1
 have k2:=p13.c2
 have k3:=p23.c0
 have k4:=p23.c1
 have k5:=p23.c2
 go_wp2_with fail
 have hc:=Wp w3 _ _ _ _ (hxb.below B3) (hyb.below B3)
 rw[HZ.out]at hc
 refine hc.mono ?_
 clear hc
 rintro e w4 ⟨rfl,hb4⟩
 go_wp2
 go_ret
 exact⟨rfl,B3.trans (hb4.mono B3.size)⟩
theorem same_num (w:World) (vx vy:Value) (x y:Rat) (hx:IsRat w vx x) (hy:IsRat w vy y):Calls Try.prog 18 #[vx,vy] w (Zv w (.bool (decide (x=y)))):=by
 by_cases h1:decide (x.num<0)=decide (y.num<0)
 ·by_cases h2:x.num.natAbs=y.num.natAbs
  ·by_cases h3:Qm x.den=Qm y.den
   ·rw[decide_eq_true ((Qa8 x y).2 ⟨h1,h2,h3⟩)]
    exact same_3 w vx vy x y hx hy h1 h2 h3
   ·rw[decide_eq_false (fun h=>h3 ((Qa8 x y).1 h).2.2)]
    exact same_2 w vx vy x y hx hy h1 h2 h3
  ·rw[decide_eq_false (fun h=>h2 ((Qa8 x y).1 h).2.1)]
   exact same_1 w vx vy x y hx hy h1 h2
 ·rw[decide_eq_false (fun h=>h1 ((Qa8 x y).1 h).1)]
  exact same_0 w vx vy x y hx hy h1
end Wx
