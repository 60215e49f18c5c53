import Derived.Test.YtpiniclogfefjaaCSylvesterFilled
import Derived.Test.YtpiniclogfefjaaCSylvesterInertia
namespace Wx
set_option maxRecDepth 100000
open Go Go.RowKit Go.Proofs
set_option linter.unusedVariables false

section
variable {P:Program} {ops:Array Oper} {ms:List Nat} {c:Cfg} {V:List Vr} {A:List Al} {G:List Ent} {i:Nat}
variable {d:Nat} {x y:Operand} {ty:TypeId} {pos:String} {aft:Array Edge}
theorem op_min2n {ts:Array TypeId} {m n:Nat} (h1:Has ms G i x (pI (m:Int))) (h2:Has ms G i y (pI (n:Int))) (hp:Post G i (pI ((min m n:Nat):Int))):Xf P ops ms c V A G i ⟨some d,.call ⟨.builtin .min,#[x,y],ts⟩,ty,pos,aft,none⟩:=
 op_val2 rfl rfl rfl rfl h1 h2 hp fun ρ w h1 h2=>⟨.int .i64 ((min m n:Nat):Int),by
  have h1:ρ x=.int .i64 m:=h1
  have h2:ρ y=.int .i64 n:=h2
  show(do let d ← resolve ρ ⟨.builtin .min,#[x,y],ts⟩ ty; invoke d.target d.args).run P w=_
  simp only[resolve,invoke,pure_bind,builtin]
  rw[show(#[x,y]:Array Operand).map ρ=#[ρ x,ρ y] by simp,h1,h2]
  have e:((min m n:Nat):Int)=if(n:Int)<m then(n:Int)else m:=by split<;>omega
  rw[e]
  rfl,fun _ _ _=>rfl⟩
theorem op_max2n {ts:Array TypeId} {m n:Nat} (h1:Has ms G i x (pI (m:Int))) (h2:Has ms G i y (pI (n:Int))) (hp:Post G i (pI ((max m n:Nat):Int))):Xf P ops ms c V A G i ⟨some d,.call ⟨.builtin .max,#[x,y],ts⟩,ty,pos,aft,none⟩:=
 op_max2 h1 h2 (by rw[show maxZ (m:Int) n=((max m n:Nat):Int) by unfold maxZ; split<;>omega]; exact hp)
end
theorem bd_i8v {z:Int} (h:-128≤z∧z≤127):BdR 8 (z:Rat):=⟨by unfold Bd; rw[Rat.num_intCast]; omega,by unfold Bd; rw[Rat.den_intCast]; omega⟩
structure SyOk (n:Nat) (La Lb Lx:List Int) (X Y C:List (List Rat)) (V:List Rat) (p q z:Nat):Prop where
 hn:1≤n∧n≤5
 eX:X=X4 n (Jt La n)
 eY:Y=X4 n (fun r c => -(Jt La n r c))
 eC:C=Ky Lb n 2
 eV:V=vecL Lx n
 hx:∀i,-128≤Lx.getD i 0∧Lx.getD i 0≤127
 e:inr n (ent X)=(p,q,z)
theorem sy_bits:∀n,n<6→Wv 4 n≤99000000∧dJ 4 n≤100000000∧Y4 (4+4) n≤1000∧Y4 (Y4 (4+4) n+4) n≤100000000∧(cA 4 n≤1000∧cD 4 1 n≤1000∧1000≤10000000)∧(cA 15 n≤1000∧cD 15 1 n≤1000∧1000≤10000000)∧(Y4 (4+8) n≤100000000∧8+Y4 (4+8) n≤100000000∧∀k,k<n→(1+k*(n*(8+(4+8)+1)))+(8+Y4 (4+8) n)+(1+k*(n*(8+(4+8)+1)))+(8+Y4 (4+8) n)+1≤100000000):=by decide
theorem mat_bd {n:Nat} {f:Nat→Nat→Rat} {j:Nat} (h1:1≤j) (h:∀r c,BdR j (f r c)):BdX j (X4 n f):=fun r c=>by
 rcases Nat.lt_or_ge r n with hr|hr
 ·rcases Nat.lt_or_ge c n with hc|hc
  ·rw[Qb8 hr hc]; exact h r c
  ·rw[W8 hr,J3 (by rw[List.length_map,List.length_range]; exact hc)]; exact bd_zero.mono h1
 ·rw[show(X4 n f).getD r []=[]from J3 (by rw[Zg]; exact hr)]
  exact bd_zero.mono h1
theorem ent_turn {C:List (List Rat)} {n r c:Nat} (hC:C.length=n) (hr:(C.getD 0 []).length=n) (h1:r<n) (h2:c<n):ent (Qp C) r c=ent C c r:=by
 unfold ent
 rw[Qay (by omega),Qap (by omega)]
theorem qsum_qf {X:List (List Rat)} {v:List Rat} {n:Nat}:∀i,Yi X v n i=Qt i fun r=>v.getD r 0*Qt n fun k=>ent X r k*v.getD k 0
 |0=>rfl
 |i+1=>by
  show Yi X v n i+_=Qt i _+_
  rw[qsum_qf i,dot_sum]
  rfl
section
variable {n p q z:Nat} {La Lb Lx:List Int} {X Y C:List (List Rat)} {V:List Rat} (h:SyOk n La Lb Lx X Y C V p q z)
include h
theorem SyOk.bits:Wv 4 n≤99000000∧dJ 4 n≤100000000∧Y4 (4+4) n≤1000∧Y4 (Y4 (4+4) n+4) n≤100000000∧(cA 4 n≤1000∧cD 4 1 n≤1000∧1000≤10000000)∧(cA 15 n≤1000∧cD 15 1 n≤1000∧1000≤10000000)∧(Y4 (4+8) n≤100000000∧8+Y4 (4+8) n≤100000000∧∀k,k<n→(1+k*(n*(8+(4+8)+1)))+(8+Y4 (4+8) n)+(1+k*(n*(8+(4+8)+1)))+(8+Y4 (4+8) n)+1≤100000000):=sy_bits n (by have:=h.hn; omega)
theorem SyOk.lX:X.length=n:=by rw[h.eX,Zg]
theorem SyOk.lY:Y.length=n:=by rw[h.eY,Zg]
theorem SyOk.lC:C.length=n:=by rw[h.eC,Qat]
theorem SyOk.rX:Rect n X:=by rw[h.eX]; exact Wg
theorem SyOk.rY:Rect n Y:=by rw[h.eY]; exact Wg
theorem SyOk.rC:Rect n C:=by rw[h.eC]; exact fillM_rect
theorem SyOk.oX:Right X:=Qaf h.lX h.rX (by have:=h.hn; omega) (by have:=h.hn; omega)
theorem SyOk.oY:Right Y:=Qaf h.lY h.rY (by have:=h.hn; omega) (by have:=h.hn; omega)
theorem SyOk.oC:Right C:=Qaf h.lC h.rC (by have:=h.hn; omega) (by have:=h.hn; omega)
theorem SyOk.bX:BdX 4 X:=by rw[h.eX]; exact mat_bd (by omega) fun r c=>bd_small (Qc3 _ _)
theorem SyOk.bC:BdX 4 C:=by rw[h.eC]; exact fillM_bd
theorem SyOk.c0:(C.getD 0 []).length=n:=h.rC 0 (by have:=h.hn; have:=h.lC; omega)
theorem SyOk.iX {r c:Nat} (h1:r<n) (h2:c<n):∃w:Int,w.natAbs≤9∧ent X r c=(w:Rat):=by
 rw[h.eX,Ud h1 h2]
 exact fill_int _ _ _ _ _
theorem SyOk.iC {r c:Nat} (h1:r<n) (h2:c<n):∃w:Int,w.natAbs≤9∧ent C r c=(w:Rat):=by
 rw[h.eC,show ent (Ky Lb n 2) r c=Kj Lb n 2 r c from Ud h1 h2]
 exact fill_int _ _ _ _ _
theorem SyOk.sX:Sym n (ent X):=fun r c h1 h2=>by
 rw[h.eX,Ud h1 h2,Ud h2 h1]
 unfold Jt
 rw[Nat.min_comm,Nat.max_comm]
theorem SyOk.eN:∀r c,r<n→c<n→ent Y r c=Kh (ent X) r c:=fun r c h1 h2=>by
 unfold Kh
 rw[h.eX,h.eY,Ud h1 h2,Ud h1 h2]
theorem SyOk.sY:Sym n (ent Y):=h.sX.neg.congr fun r c h1 h2=>(h.eN r c h1 h2).symm
theorem SyOk.cX:ComM 4 1 n (ent X):=com_int (b:=9) (by decide) fun r c h1 h2=>h.iX h1 h2
theorem SyOk.cY:ComM 4 1 n (ent Y):=com_int (b:=9) (by decide) fun r c h1 h2=>by
 obtain⟨w,h3,h4⟩:=h.iX h1 h2
 exact⟨-w,by rw[Int.natAbs_neg]; exact h3,by rw[h.eN r c h1 h2,Rat.intCast_neg,← h4]; rfl⟩
theorem SyOk.sum:p+q+z=n:=by have k:=inr_sum h.sX; rw[h.e]at k; exact k
theorem SyOk.inY:inr n (ent Y)=(q,p,z):=by
 have e:inr n (ent Y)=inr n (Kh (ent X)):=inr_eq h.sY (.congr h.eN (Qau h.sX.neg))
 have k:=inr_neg h.sX
 rw[h.e]at k
 rw[e]
 exact Prod.ext k.1 (Prod.ext k.2.1 k.2.2)
theorem SyOk.inX:InR n (ent X) p q z:=by have k:=Qau h.sX; rw[h.e]at k; exact k
theorem SyOk.det:Za X=Wx.det n (ent X):=(detG_det h.lX h.rX).1
theorem SyOk.tz:(decide (Za X=0) != decide (((z:Nat):Int)>0))=false:=by
 have k:=h.inX.det.1
 rw[← h.det]at k
 by_cases hz:z=0
 ·rw[decide_eq_false (fun e=>k.1 e hz),decide_eq_false (by omega)]; rfl
 ·rw[decide_eq_true (k.2 hz),decide_eq_true (by omega)]; rfl
theorem SyOk.ts:(((z:Int)==(0:Int))&&(decide (Yj (Za X)>(0:Int)) != ((q:Int).tmod 2==(0:Int))))=false:=by
 by_cases hz:z=0
 ·have k:=h.inX.det.2 hz
  rw[← h.det]at k
  have e1:(q:Int).tmod 2=((q%2:Nat):Int):=(Int.ofNat_tmod q 2).symm
  have h0:Za X≠0:=fun e=>by
   have k2:=h.inX.det.1
   rw[← h.det]at k2
   exact k2.1 e hz
  rw[e1]
  cases hd:decide (Yj (Za X)>0)with
  |true=>
   have:=k.1 (sgn_pos hd)
   rw[this]
   simp
  |false=>
   have hn:=sgn_neg hd h0
   have:q%2=1:=by
    have h3:¬q%2=0:=fun h4=>by have:=k.2 h4; grind
    omega
   rw[this]
   simp
 ·rw[show((z:Int)==(0:Int))=false from beq_eq_false_iff_ne.2 (by omega),Bool.false_and]
theorem SyOk.lV:V.length=n:=by rw[h.eV]; unfold vecL; rw[List.length_map,List.length_range]
theorem SyOk.bV (k:Nat):BdR 8 (V.getD k 0):=by
 rw[h.eV]
 rcases Nat.lt_or_ge k n with hk|hk
 ·show BdR 8 (((List.range n).map (Wt Lx n)).getD k 0)
  rw[X0 hk]
  unfold Wt
  split
  ·exact bd_i8v (h.hx k)
  ·exact bd_zero.mono (by omega)
 ·rw[J3 (by unfold vecL; rw[List.length_map,List.length_range]; exact hk)]
  exact bd_zero.mono (by omega)
theorem SyOk.tq:(((((p:Int)==(n:Int))&&!(Xm Lx n))&&decide (Yj (Yi X V n n)≤(0:Int)))||((((q:Int)==(n:Int))&&!(Xm Lx n))&&decide (Yj (Yi X V n n)≥(0:Int))))=false:=by
 have e:Yi X V n n=qf n (ent X) (fun k=>V.getD k 0):=qsum_qf n
 obtain⟨k1,k2,k3⟩:=h.inX.chr h.sX
 have hs:∀{y:Rat},0<y→Yj y=1:=fun hy=>by rw[sgnI_eq]; exact cmpT_gt hy
 have hs2:∀{y:Rat},y<0→Yj y = -1:=fun hy=>by rw[sgnI_eq]; exact cmpT_lt hy
 cases hnull:Xm Lx n with
 |true=>simp
 |false=>
  have hv:∃i,i<n∧V.getD i 0≠0:=by rw[h.eV]; exact nullN_vec hnull
  rw[e,Bool.or_eq_false_iff]
  constructor
  ·by_cases hp:p=n
   ·have:=pos_all (v:=fun k=>V.getD k 0) (by have:=k2.2.1; rw[hp]at this; exact this) hv
    rw[hs this]
    simp
   ·rw[show((p:Int)==(n:Int))=false from beq_eq_false_iff_ne.2 (by omega)]; simp
  ·by_cases hp:q=n
   ·have:=pos_all (v:=fun k=>V.getD k 0) (by have:=k3.2.1; rw[hp]at this; exact this) hv
    rw[qf_negM]at this
    rw[hs2 (by grind)]
    simp
   ·rw[show((q:Int)==(n:Int))=false from beq_eq_false_iff_ne.2 (by omega)]; simp
theorem SyOk.lL:(Xq (Qp C) (Qp X)).length=n:=by rw[Qde,Wb,h.c0]
theorem SyOk.lT:(Qp C).length=n:=by rw[Wb,h.c0]
theorem SyOk.rT:Rect n (Qp C):=fun i hi=>by rw[Qay (by rw[Wb]at hi; exact hi),W2,h.lC]
theorem SyOk.rL:Rect n (Xq (Qp C) (Qp X)):=mul_rect h.lX h.rX (by have:=h.hn; omega)
theorem SyOk.lB:(Xq (Xq (Qp C) (Qp X)) (Qp C)).length=n:=by rw[Qde]; exact h.lL
theorem SyOk.rB:Rect n (Xq (Xq (Qp C) (Qp X)) (Qp C)):=mul_rect h.lC h.rC (by have:=h.hn; omega)
theorem SyOk.bT:BdX 4 (Qp C):=turnM_bd h.bC (by omega)
theorem SyOk.bL:BdX (Y4 (4+4) n) (Xq (Qp C) (Qp X)):=mulT_bd h.bT (turnM_bd h.bX (by omega)) fun i hi=>Nat.le_of_eq (h.rT i hi)
theorem SyOk.eB:∀r c,r<n→c<n→ent (Xq (Xq (Qp C) (Qp X)) (Qp C)) r c=Yh n (Yh n (fun r c=>ent C c r) (ent X)) (ent C) r c:=fun r c h1 h2=>by
 rw[ent_mul h.lL h.rL h.lC h.rC h1 h2]
 refine Qq fun k hk=>?_
 rw[ent_mul h.lT h.rT h.lX h.rX h1 hk]
 congr 1
 exact Qq fun j hj=>by rw[ent_turn h.lC h.c0 h1 hj]
theorem SyOk.iB {r c:Nat} (h1:r<n) (h2:c<n):∃w:Int,w.natAbs≤18225∧ent (Xq (Xq (Qp C) (Qp X)) (Qp C)) r c=(w:Rat):=by
 rw[h.eB r c h1 h2]
 have hn:=h.hn
 have k1:∀k,k<n→∃w:Int,w.natAbs≤405∧Yh n (fun r c=>ent C c r) (ent X) r k=(w:Rat):=fun k hk=>by
  obtain⟨w,h3,h4⟩:=sum_int (n:=n) (f:=fun j=>ent C j r) (g:=fun j=>ent X j k) (a:=9) (b:=9) (fun j hj=>h.iC hj h1) fun j hj=>h.iX hj hk
  exact⟨w,Nat.le_trans h3 (Nat.mul_le_mul_right (9*9) hn.2),h4⟩
 obtain⟨w,h3,h4⟩:=sum_int (n:=n) (g:=fun j=>ent C j c) (b:=9) k1 fun j hj=>h.iC hj h2
 exact⟨w,Nat.le_trans h3 (Nat.mul_le_mul_right (405*9) hn.2),h4⟩
theorem SyOk.cB:ComM 15 1 n (ent (Xq (Xq (Qp C) (Qp X)) (Qp C))):=com_int (b:=18225) (by decide) fun r c h1 h2=>h.iB h1 h2
theorem SyOk.sB:Sym n (ent (Xq (Xq (Qp C) (Qp X)) (Qp C))):=fun r c h1 h2=>by
 have key:∀a b,Yh n (Yh n (fun r c=>ent C c r) (ent X)) (ent C) a b=Qt n fun k=>Qt n fun j=>ent C j a*ent X j k*ent C k b:=fun a b=>Qq fun k _=>by
  show(Qt n fun j=>ent C j a*ent X j k)*ent C k b=_
  rw[Rat.mul_comm,← Yd]
  exact Qq fun j _=>by grind
 rw[h.eB r c h1 h2,h.eB c r h2 h1,key,key,Vh]
 refine Qq fun k hk=>Qq fun j hj=>?_
 rw[h.sX k j hk hj]
 grind
theorem SyOk.inB (hd:Za C≠0):inr n (ent (Xq (Xq (Qp C) (Qp X)) (Qp C)))=(p,q,z):=by
 rw[inr_congr h.sX h.sB (C:=ent C) (by rw[← (detG_det h.lC h.rC).1]; exact hd) h.eB,h.e]
theorem sy_inX:∀(M:Nat→Nat→Prop) (w:World) (v0:Value),Mid M w→Box M (fun w=>(Qg 1 false n (fun i=>Qd ((X).getD i []))) w v0) w→Calls Try.prog 23 #[v0] w (RetB M (Wi (pI (p:Int)) (pI (q:Int)) (pI (z:Int)) (pI 0)) w):=by
 have k:=Qdx (A:=X) (α:=4) (δ:=1) (J:=1000) h.oX (by rw[h.lX]; exact h.rX) (by rw[h.lX]; exact h.sX) (by rw[h.lX]; exact h.cX) (by rw[h.lX]; exact h.bits.2.2.2.2.1)
 rw[h.lX,h.e]at k
 exact k
theorem sy_inY:∀(M:Nat→Nat→Prop) (w:World) (v0:Value),Mid M w→Box M (fun w=>(Qg 1 false n (fun i=>Qd ((Y).getD i []))) w v0) w→Calls Try.prog 23 #[v0] w (RetB M (Wi (pI (q:Int)) (pI (p:Int)) (pI (z:Int)) (pI 0)) w):=by
 have k:=Qdx (A:=Y) (α:=4) (δ:=1) (J:=1000) h.oY (by rw[h.lY]; exact h.rY) (by rw[h.lY]; exact h.sY) (by rw[h.lY]; exact h.cY) (by rw[h.lY]; exact h.bits.2.2.2.2.1)
 rw[h.lY,h.inY]at k
 exact k
theorem sy_inB (hd:Za C≠0):∀(M:Nat→Nat→Prop) (w:World) (v0:Value),Mid M w→Box M (fun w=>(Qg 1 false n (fun i=>Qd ((Xq (Xq (Qp C) (Qp X)) (Qp C)).getD i []))) w v0) w→Calls Try.prog 23 #[v0] w (RetB M (Wi (pI (p:Int)) (pI (q:Int)) (pI (z:Int)) (pI 0)) w):=by
 have hB:Right (Xq (Xq (Qp C) (Qp X)) (Qp C)):=Qaf h.lB h.rB (by have:=h.hn; omega) (by have:=h.hn; omega)
 have k:=Qdx (α:=15) (δ:=1) (J:=1000) hB (by rw[h.lB]; exact h.rB) (by rw[h.lB]; exact h.sB) (by rw[h.lB]; exact h.cB) (by rw[h.lB]; exact h.bits.2.2.2.2.2.1)
 rw[h.lB,h.inB hd]at k
 exact k
theorem sy_detX:∀(M:Nat→Nat→Prop) (w:World) (v0:Value),Mid M w→Box M (fun w=>(Qg 1 false n (fun i=>Qd ((X).getD i []))) w v0) w→Calls Try.prog 17 #[v0] w (RetB M (Zd (Qk (Za X)) (pI 0)) w):=by
 have k:=c_Det (A:=X) (j:=4) h.oX (by rw[h.lX]; exact h.rX) h.bX (by omega) (by rw[h.lX]; have:=h.bits.1; omega) (by rw[h.lX]; exact h.bits.2.1)
 rw[h.lX]at k
 exact k
theorem sy_detC:∀(M:Nat→Nat→Prop) (w:World) (v0:Value),Mid M w→Box M (fun w=>(Qg 1 false n (fun i=>Qd ((C).getD i []))) w v0) w→Calls Try.prog 17 #[v0] w (RetB M (Zd (Qk (Za C)) (pI 0)) w):=by
 have k:=c_Det (A:=C) (j:=4) h.oC (by rw[h.lC]; exact h.rC) h.bC (by omega) (by rw[h.lC]; have:=h.bits.1; omega) (by rw[h.lC]; exact h.bits.2.1)
 rw[h.lC]at k
 exact k
theorem sy_quad:∀(M:Nat→Nat→Prop) (w:World) (v0 v1:Value),Mid M w→Box M (fun w=>(Qg 1 false n (fun i=>Qd ((X).getD i []))) w v0) w→Box M (fun w=>(Qd V) w v1) w→Calls Try.prog 25 #[v0,v1] w (RetB M (Zd (Qk (Yi X V n n)) (pI 0)) w):=by
 have k:=c_Quadratic_ok (A:=X) (x:=V) (j:=4) (jx:=8) ⟨h.oX,by rw[h.lX,h.rX 0 (by have:=h.hn; have:=h.lX; omega)]⟩ (by rw[h.lV,h.lX]) h.bX h.bV (by rw[h.lX]; exact h.bits.2.2.2.2.2.2)
 rw[h.lX]at k
 exact k
theorem sy_turn:∀(M:Nat→Nat→Prop) (w:World) (v0:Value),Mid M w→Box M (fun w=>(Qg 1 false n (fun i=>Qd ((C).getD i []))) w v0) w→Calls Try.prog 26 #[v0] w (RetB M (Zd (Qg 1 false n (fun i=>Qd ((Qp C).getD i []))) (pI 0)) w):=by
 have k:=Qe6 (A:=C) (j:=4) h.oC h.bC
 rw[h.lC,h.c0]at k
 exact k
theorem sy_left:∀(M:Nat→Nat→Prop) (w:World) (v0 v1:Value),Mid M w→Box M (fun w=>(Qg 1 false n (fun i=>Qd ((Qp C).getD i []))) w v0) w→Box M (fun w=>(Qg 1 false n (fun i=>Qd ((X).getD i []))) w v1) w→Calls Try.prog 16 #[v0,v1] w (RetB M (Zd (Qg 1 false n (fun i=>Qd ((Xq (Qp C) (Qp X)).getD i []))) (pI 0)) w):=by
 have hT:Right (Qp C):=Qaf h.lT h.rT (by have:=h.hn; omega) (by have:=h.hn; omega)
 have k:=Qdy (A:=Qp C) (B:=X) (j1:=4) (j2:=4) hT h.oX (by rw[h.lX,h.rT 0 (by have:=h.hn; have:=h.lT; omega)]) h.bT h.bX (by omega) (by rw[h.lX]; have:=h.bits.2.2.1; omega)
 rw[h.lT,h.lX]at k
 exact k
theorem sy_both:∀(M:Nat→Nat→Prop) (w:World) (v0 v1:Value),Mid M w→Box M (fun w=>(Qg 1 false n (fun i=>Qd ((Xq (Qp C) (Qp X)).getD i []))) w v0) w→Box M (fun w=>(Qg 1 false n (fun i=>Qd ((C).getD i []))) w v1) w→Calls Try.prog 16 #[v0,v1] w (RetB M (Zd (Qg 1 false n (fun i=>Qd ((Xq (Xq (Qp C) (Qp X)) (Qp C)).getD i []))) (pI 0)) w):=by
 have hL:Right (Xq (Qp C) (Qp X)):=Qaf h.lL h.rL (by have:=h.hn; omega) (by have:=h.hn; omega)
 have k:=Qdy (A:=Xq (Qp C) (Qp X)) (B:=C) (j1:=Y4 (4+4) n) (j2:=4) hL h.oC (by rw[h.lC,h.rL 0 (by have:=h.hn; have:=h.lL; omega)]) h.bL h.bC (by omega) (by rw[h.lC]; exact h.bits.2.2.2.1)
 rw[h.lL,h.lC]at k
 exact k
end
theorem ex4_0 {p q r s:Qj}:∀w v,Wi p q r s w v→∃vs u,v=.tuple vs∧vs[0]?=some u∧p w u:=fun _ _ ⟨_,_,_,_,e,h,_⟩=>⟨_,_,e,rfl,h⟩
theorem ex4_1 {p q r s:Qj}:∀w v,Wi p q r s w v→∃vs u,v=.tuple vs∧vs[1]?=some u∧q w u:=fun _ _ ⟨_,_,_,_,e,_,h,_⟩=>⟨_,_,e,rfl,h⟩
theorem ex4_2 {p q r s:Qj}:∀w v,Wi p q r s w v→∃vs u,v=.tuple vs∧vs[2]?=some u∧r w u:=fun _ _ ⟨_,_,_,_,e,_,_,h,_⟩=>⟨_,_,e,rfl,h⟩
theorem ex4_3 {p q r s:Qj}:∀w v,Wi p q r s w v→∃vs u,v=.tuple vs∧vs[3]?=some u∧s w u:=fun _ _ ⟨_,_,_,_,e,_,_,_,h⟩=>⟨_,_,e,rfl,h⟩
theorem Qe3 {P:Program} {c:Cfg} {V:List Vr} {G:List Ent} {a:Act} {w:World} {d:Nat} {x y z:Operand} {ty:TypeId} {pos:String} {aft:Array Edge} {Λ:Type} {C:Λ→Prop} {hd:Λ→Value} {H:Λ→List Bk} {p1 p2 p3:Qj} (id:Nat) {f:FuncId} {ts:Array TypeId} {ops:Array Oper} (hf:Y1 P f) (h:Inv c V [] G Qf a w) (h1:Has [0] G 0 x p1) (h2:Has [0] G 0 y p2) (h3:Has [0] G 0 z p3)
  (hc:∀(M:Nat→Nat→Prop) w v1 v2 v3,Mid M w→Box M (fun w=>p1 w v1) w→Box M (fun w=>p2 w v2) w→Box M (fun w=>p3 w v3) w→Calls P f #[v1,v2,v3] w (RetO C hd H w)) (hd':decide (d<c.N)=true) (hV:(V.all fun y=>(y.slot != d&&y.id != id)&&(y.born.isNone&&y.dead.isNone))=true) (hG:(G.all fun e=>e.slot != d)=true):
  DoesG P ops ⟨some d,.call ⟨.value (.func f),#[x,y,z],ts⟩,ty,pos,aft,none⟩ a w (fun a w=>∃l,C l∧Inv c (Xu id d (H l)::V) [] (⟨none,none,d,Qe (hd l)⟩::G) Qf a w):=
 step_callO hf h (fun β hI=>by
  rw[show(#[x,y,z]:Array Operand).map a.eval=#[a.eval x,a.eval y,a.eval z] by simp]
  exact hc _ w _ _ _ (X8 hI) (h1.spec hI det0) (h2.spec hI det0) (h3.spec hI det0)) hd' hV hG
structure SyI where
 k:Nat
 H1:List Bk
 H2:List Bk
theorem sy_quad' {n p q z:Nat} {La Lb Lx:List Int} {X Y C:List (List Rat)} {V:List Rat} (h:SyOk n La Lb Lx X Y C V p q z):∀(M:Nat→Nat→Prop) (w:World) (v0 v1:Value),Mid M w→Box M (fun w=>(Qg 1 false n (fun i=>Qd ((X).getD i []))) w v0) w→Box M (fun w=>(Qg 3 true n (fun i=>Qk (V.getD i 0))) w v1) w→Calls Try.prog 25 #[v0,v1] w (RetB M (Zd (Qk (Yi X V n n)) (pI 0)) w):=by
 have k:=sy_quad h
 rw[pRats_len h.lV]at k
 exact k
set_option maxHeartbeats 2000000 in
theorem sylvester_walk {La Lb Lx:List Int} {nn:Int} {n p q z:Nat} {X Y C:List (List Rat)} {V:List Rat} (hnn:0≤nn∧nn≤255) (hs:1+nn.tmod 5=(n:Int)) (ha8:∀i,-128≤La.getD i 0∧La.getD i 0≤127) (hb8:∀i,-128≤Lb.getD i 0∧Lb.getD i 0≤127) (h:SyOk n La Lb Lx X Y C V p q z):∀(M:Nat→Nat→Prop) (w:World) (v0 v1 v2 v3:Value),Mid M w→Box M (fun w=>(Qg 1 false La.length (fun i=>Qe (.int .i8 (La.getD i 0)))) w v0) w→Box M (fun w=>(Qg 1 false Lb.length (fun i=>Qe (.int .i8 (Lb.getD i 0)))) w v1) w→Box M (fun w=>(Qg 1 false Lx.length (fun i=>Qe (.int .i8 (Lx.getD i 0)))) w v2) w→Box M (fun w=>(Qe (.int .u8 nn)) w v3) w→Calls Try.prog 5 #[v0,v1,v2,v3] w (RetB M (pB true) w):=by
 intro M w0 v0 v1 v2 v3 hM hv0 hv1 hv2 hv3
 have hnn':=h.hn
 have hsum:=h.sum
 refine Zq (N:=306) Try.func5 rfl rfl rfl hM (show EntsA M w0 [v0,v1,v2,v3] [⟨none,none,0,Qg 1 false La.length (fun i=>Qe (.int .i8 (La.getD i 0)))⟩,⟨none,none,1,Qg 1 false Lb.length (fun i=>Qe (.int .i8 (Lb.getD i 0)))⟩,⟨none,none,2,Qg 1 false Lx.length (fun i=>Qe (.int .i8 (Lx.getD i 0)))⟩,⟨none,none,3,Qe (.int .u8 nn)⟩]from⟨⟨rfl,_,rfl,hv0⟩,⟨rfl,_,rfl,hv1⟩,⟨rfl,_,rfl,hv2⟩,⟨rfl,_,rfl,hv3⟩,trivial⟩) fun a hI=>?_
 refine Qh hI [] [] [⟨some 0,none,8,pB false⟩] .z (.kkkk .z) rfl [0] (by kernel_rfl) ?_ .z (.kkkk (.k .z)) fun a w hI=>?_
 ·exact⟨Qc (.const _) (.here 4 rfl),trivial⟩
 refine wp_seq ?_
 refine Qh hI [] [] [⟨some 0,none,36,Qg 1 false La.length (fun i=>Qe (.int .i8 (La.getD i 0)))⟩,⟨some 1,none,37,pI (La.length:Int)⟩,⟨some 2,none,38,pB (decide ((La.length:Int)>(40:Int)))⟩,⟨some 3,none,39,pB (decide ((La.length:Int)>(40:Int)))⟩,⟨some 4,none,40,Yp ((decide ((La.length:Int)>(40:Int)))=false) (Qg 1 false Lb.length (fun i=>Qe (.int .i8 (Lb.getD i 0))))⟩,⟨some 5,none,41,Yp ((decide ((La.length:Int)>(40:Int)))=false) (pI (Lb.length:Int))⟩,⟨some 6,none,42,Yp ((decide ((La.length:Int)>(40:Int)))=false) (pB (decide ((Lb.length:Int)>(40:Int))))⟩,⟨some 7,none,43,pB ((decide ((La.length:Int)>(40:Int)))||(decide ((Lb.length:Int)>(40:Int))))⟩,⟨some 8,none,44,pB ((decide ((La.length:Int)>(40:Int)))||(decide ((Lb.length:Int)>(40:Int))))⟩,⟨some 9,none,45,Yp (((decide ((La.length:Int)>(40:Int)))||(decide ((Lb.length:Int)>(40:Int))))=false) (Qg 1 false Lx.length (fun i=>Qe (.int .i8 (Lx.getD i 0))))⟩,⟨some 10,none,46,Yp (((decide ((La.length:Int)>(40:Int)))||(decide ((Lb.length:Int)>(40:Int))))=false) (pI (Lx.length:Int))⟩,⟨some 11,none,47,Yp (((decide ((La.length:Int)>(40:Int)))||(decide ((Lb.length:Int)>(40:Int))))=false) (pB (decide ((Lx.length:Int)>(8:Int))))⟩,⟨some 12,none,48,pB (((decide ((La.length:Int)>(40:Int)))||(decide ((Lb.length:Int)>(40:Int))))||(decide ((Lx.length:Int)>(8:Int))))⟩] .z (.kkkk (.k .z)) rfl [0,1,3,7,15,31,63,127,255,511,1023,2047,4095] (by kernel_rfl) ?_ .z (.kkkk (.kddd (.d8 (.dk .z)))) fun a w hI=>?_
 ·exact⟨Qa (.tmp 0 rfl rfl) (.here 5 rfl),Yy (.tmp 5 rfl rfl) (U0).under (.here 6 rfl),Qo (v:=.bool (decide ((La.length:Int)>(40:Int)))) (.tmp 6 rfl rfl) (.const _) (fun _=>rfl) (.here 7 rfl),Qa (.tmp 7 rfl rfl) (.here 8 rfl),Yo 8 rfl rfl (fun hc=>Qa (.tmp 1 rfl rfl) (.sel hc 9 rfl)) (by kernel_rfl) (fun _=>.none (by kernel_rfl)) (fun hc=>.sel_no hc 9 rfl),Yo 8 rfl rfl (fun hc=>Yy (.sel (.tmp 9 rfl rfl) hc) (U0).under (.sel hc 10 rfl)) (by kernel_rfl) (fun _=>.none (by kernel_rfl)) (fun hc=>.sel_no hc 10 rfl),Yo 8 rfl rfl (fun hc=>Qo (v:=.bool (decide ((Lb.length:Int)>(40:Int)))) (.sel (.tmp 10 rfl rfl) hc) (.const _) (fun _=>rfl) (.sel hc 11 rfl)) (by kernel_rfl) (fun _=>.none (by kernel_rfl)) (fun hc=>.sel_no hc 11 rfl),Yf (.tmp 8 rfl rfl) (fun h=>.imp (.const _) fun _ _ e=>by rw[h]; exact e) (fun h=>.imp (.sel (.tmp 11 rfl rfl) (h)) fun _ _ e=>by rw[h]; exact e) (.here 12 rfl),Qa (.tmp 12 rfl rfl) (.here 13 rfl),Yo 13 rfl rfl (fun hc=>Qa (.tmp 2 rfl rfl) (.sel hc 14 rfl)) (by kernel_rfl) (fun _=>.none (by kernel_rfl)) (fun hc=>.sel_no hc 14 rfl),Yo 13 rfl rfl (fun hc=>Yy (.sel (.tmp 14 rfl rfl) hc) (U0).under (.sel hc 15 rfl)) (by kernel_rfl) (fun _=>.none (by kernel_rfl)) (fun hc=>.sel_no hc 15 rfl),Yo 13 rfl rfl (fun hc=>Qo (v:=.bool (decide ((Lx.length:Int)>(8:Int)))) (.sel (.tmp 15 rfl rfl) hc) (.const _) (fun _=>rfl) (.sel hc 16 rfl)) (by kernel_rfl) (fun _=>.none (by kernel_rfl)) (fun hc=>.sel_no hc 16 rfl),Yf (.tmp 13 rfl rfl) (fun h=>.imp (.const _) fun _ _ e=>by rw[h]; exact e) (fun h=>.imp (.sel (.tmp 16 rfl rfl) (h)) fun _ _ e=>by rw[h]; exact e) (.here 17 rfl),trivial⟩
 refine Xd hI 5 rfl (fun ht=>?_) (fun ht=>?_)
 ·have t1:=ht
  refine Qh hI [] [] [⟨some 0,none,49,pB true⟩,⟨some 1,none,8,pB true⟩] .z (.kkkk (.t 1 (.k .z))) rfl [0,1] (by kernel_rfl) ?_ .z (.kkkk (.dddk .z)) fun a w hI=>?_
  ·exact⟨op_call0 (fun _ _=>by kernel_rfl) (Xt _) (.here 6 rfl) (c_awake),Qc (.tmp 6 rfl rfl) (.here 7 rfl),trivial⟩
  refine wp_ret ?_
  refine X7 ?_
  exact W5 hI rfl (.tmp 4 rfl)
 ·have t2:=ht
  refine wp_skip ?_
  refine Qi ?_
  refine Qh hI [] [] [⟨some 0,none,50,Qe (.int .u8 nn)⟩,⟨some 1,none,51,pI nn⟩,⟨some 2,none,52,pI ((nn).tmod 5)⟩,⟨some 3,none,53,pI (n:Int)⟩,⟨some 4,none,9,pI (n:Int)⟩] .z (.kkkk (.kk .z)) rfl [0,1,3,7,15] (by kernel_rfl) ?_ .z (.kkkd (.kddd (.ddk .z))) fun a w hI=>?_
  ·exact⟨Qa (.tmp 3 rfl rfl) (.here 6 rfl),op_conv (.tmp 6 rfl rfl) (fun _=>by kernel_rfl) (.at_ 7 _ _ rfl (Xe (by omega))),Qo (.tmp 7 rfl rfl) (.const _) (bin_rem (by decide)) (.here 8 rfl),Qo (v:=.int .i64 (IntKind.i64.wrap (1+nn.tmod 5))) (.const _) (.tmp 8 rfl rfl) (fun _=>rfl) (.at_ 9 _ _ rfl (fun w v h=>(Xe (by omega) w v h).trans (by rw[hs]))),Qc (.tmp 9 rfl rfl) (.here 10 rfl),trivial⟩
  have hl40:La.length≤40∧Lb.length≤40∧Lx.length≤8:=by simp only[Bool.or_eq_false_iff,decide_eq_false_iff_not]at t2; omega
  refine Vx hI [] [] [⟨some 0,none,54,Qg 1 false La.length (fun i=>Qe (.int .i8 (La.getD i 0)))⟩,⟨some 1,none,55,pI (n:Int)⟩] .z (.kkkk (.k .z)) rfl [0,1,3,7,15,31,63,127] 2 (by kernel_rfl) ?_ .z (.kkkk (.kkk .z)) (fun a w hI=>hI) (⟨_,fun a w hI=>Qe3 56 (fun _ _=>by kernel_rfl) hI (.tmp 5 rfl rfl) (.tmp 6 rfl rfl) (.const _) (fun M w v1 v2 v3 hM h1 h2 h3=>r_filled (L:=La) (n:=n) (f:=0) (by omega) (by omega) (by omega) (by omega) ha8 M w v1 v2 v3 hM h1 h2 h3) (by kernel_rfl) (by kernel_rfl) (by kernel_rfl),
    _,exL fun l hC a w hI=>Jh hI [] [⟨some 0,none,57,Qg 1 false Lb.length (fun i=>Qe (.int .i8 (Lb.getD i 0)))⟩] (.k .z) (.k8 .z) (by kernel_rfl) (Qa (.tmp 2 rfl rfl) (.here 8 rfl)) (.k .z) (.kkdk (.kkdd (.k .z))),
    _,exL fun l hC a w hI=>Jh hI [] [⟨some 0,none,58,pI (n:Int)⟩] (.k .z) (.kkkk (.kk .z)) (by kernel_rfl) (Qa (.tmp 4 rfl rfl) (.here 6 rfl)) (.k .z) (.kkkk (.kkk .z)),
    _,exL fun l hC a w hI=>Jh hI [] [⟨some 0,none,59,Qg 1 false n (fun i=>Qd ((C).getD i []))⟩] (.k .z) (.kkkk (.kkk .z)) (by kernel_rfl) (op_callB3 (fun _ _=>by kernel_rfl) (.tmp 5 rfl rfl) (.tmp 6 rfl rfl) (.const _) (.here 7 rfl) ((by have k:=c_filled (L:=Lb) (n:=n) (f:=2) (by omega) (by omega) (by omega) (by omega) hb8; rw[← h.eC]at k; exact k))) (.k .z) (.kkkk (.kddk .z)),
    _,exL fun l hC a w hI=>Jh hI [] [⟨some 0,none,10,Qe (.slice (some ⟨l.g,0,none⟩) n l.cap)⟩] (.k .z) (.kkkk (.kk .z)) (by kernel_rfl) (Qc (.tmp 0 rfl rfl) (.here 6 rfl)) (.k .z) (.dkkk (.kkk .z)),
    _,exL fun l hC a w hI=>Jh hI [] [⟨some 0,none,11,Qg 1 false n (fun i=>Qd ((C).getD i []))⟩] (.k .z) (.kkkk (.kk .z)) (by kernel_rfl) (Qc (.tmp 4 rfl rfl) (.here 6 rfl)) (.k .z) (.kkkk (.dkk .z)),
    rfl⟩) ?_
  ·exact⟨Qa (.tmp 0 rfl rfl) (.here 5 rfl),Qa (.tmp 4 rfl rfl) (.here 6 rfl),trivial⟩
  ·rintro a w ⟨m1,hC,hI⟩
   have hC:MatOk m1.g m1.cap m1.R (Ky La n 0) m1.H:=hC
   have hM1:=hC
   refine Vx hI [] [] [⟨some 0,none,60,Qg 1 false La.length (fun i=>Qe (.int .i8 (La.getD i 0)))⟩,⟨some 1,none,61,pI (n:Int)⟩] (.k .z) (.kkkk (.kk .z)) rfl [0,1,3,7] 2 (by kernel_rfl) ?_ (.k .z) (.dkkk (.kkkk .z)) (fun a w hI=>hI) (⟨_,fun a w hI=>Qe3 62 (fun _ _=>by kernel_rfl) hI (.tmp 5 rfl rfl) (.tmp 6 rfl rfl) (.const _) (fun M w v1 v2 v3 hM h1 h2 h3=>r_filled (L:=La) (n:=n) (f:=0) (by omega) (by omega) (by omega) (by omega) ha8 M w v1 v2 v3 hM h1 h2 h3) (by kernel_rfl) (by kernel_rfl) (by kernel_rfl),
     _,exL fun l hC a w hI=>Jh hI [] [⟨some 0,none,12,Qe (.slice (some ⟨l.g,0,none⟩) n l.cap)⟩] (.k (.k .z)) (.k8 .z) (by kernel_rfl) (Qc (.tmp 0 rfl rfl) (.here 8 rfl)) (.k (.k .z)) (.dkkk (.kkdd (.k .z))),
     rfl⟩) ?_
   ·exact⟨Qa (.tmp 0 rfl rfl) (.here 6 rfl),Qa (.tmp 3 rfl rfl) (.here 7 rfl),trivial⟩
   ·rintro a w ⟨t1,hC,hI⟩
    have hC:MatOk t1.g t1.cap t1.R (Ky La n 0) t1.H:=hC
    refine Qh hI [⟨64,64,some 1,some 2,(.row n),32,(n*3),true,pv (Uy 3 true n (fun _=>Qk 0)),[]⟩,⟨13,13,some 2,none,(.row n),32,(n*3),true,pv (Uy 3 true n (fun _=>Qk 0)),[]⟩] [] [⟨some 0,none,63,pI (n:Int)⟩] (.k (.k .z)) (.kkkk (.kk .z)) rfl [0,1,3] (by kernel_rfl) ?_ (.k (.k (.d (.k .z)))) (.kkkk (.kkd .z)) fun a w hI=>?_
    ·exact⟨Qa (.tmp 2 rfl rfl) (.here 6 rfl),op_makeSliceC (n:=n) (p0:=Qk 0) (zv:=.agg #[.bool false,.slice none 0 0,.slice none 0 0]) (z:=[.bool false,.slice none 0 0,.slice none 0 0]) 2 rfl rfl (by kernel_rfl) (by kernel_rfl) (by kernel_rfl) rfl rfl rfl rfl rfl (.tmp 6 rfl rfl) (.tmp 6 rfl rfl) (Qy).under (by kernel_rfl) rfl rfl (by omega) (by simp[Yr]) (fun w=>Yl w) (by omega),op_assignC 2 rfl rfl rfl rfl rfl (by kernel_rfl) rfl 3 rfl rfl rfl rfl rfl rfl rfl rfl (by kernel_rfl) (by kernel_rfl),trivial⟩
    refine Qh hI [] [] [⟨some 0,none,14,pB true⟩] (.k (.k (.k .z))) (.kkkk (.kk .z)) rfl [0] (by kernel_rfl) ?_ (.k (.k (.k .z))) (.kkkk (.kkk .z)) fun a w hI=>?_
    ·exact⟨Qc (.const _) (.here 6 rfl),trivial⟩
    refine wp_seq ?_
    refine Qh hI [] [] [⟨some 0,none,65,pI (n:Int)⟩,⟨some 1,none,66,pI 0⟩] (.k (.k (.k .z))) (.kkkk (.kkk .z)) rfl [0,1] (by kernel_rfl) ?_ (.k (.k (.k .z))) (.k8 (.k .z)) fun a w hI=>?_
    ·exact⟨Qa (.tmp 2 rfl rfl) (.here 7 rfl),Qa (.const _) (.here 8 rfl),trivial⟩
    refine wp_block ?_
    refine Xn (fun(y:SyI) a w=>(y.k≤n∧MatOk m1.g m1.cap m1.R (X4 n (mS La n y.k 0)) y.H1∧MatOk t1.g t1.cap t1.R (X4 n (tS La n y.k 0)) y.H2)∧Inv ⟨306,w0,M,fun _=>False⟩ [⟨62,62,none,none,.obj,0,0,false,Zj y.H2,[]⟩,⟨56,56,none,none,.obj,0,0,false,Zj y.H1,[]⟩,⟨13,13,none,none,(.row n),32,(n*3),true,pv (Uy 3 true n (fun q=>Qk (Wt Lx y.k q))),[]⟩] [] [⟨none,none,2,Qg 1 false Lx.length (fun i=>Qe (.int .i8 (Lx.getD i 0)))⟩,⟨none,none,8,pB false⟩,⟨none,none,9,pI (n:Int)⟩,⟨none,none,10,Qe (.slice (some ⟨m1.g,0,none⟩) n m1.cap)⟩,⟨none,none,11,Qg 1 false n (fun i=>Qd ((C).getD i []))⟩,⟨none,none,12,Qe (.slice (some ⟨t1.g,0,none⟩) n t1.cap)⟩,⟨none,none,14,pB (Xm Lx y.k)⟩,⟨none,none,65,pI (n:Int)⟩,⟨none,none,66,pI (y.k:Int)⟩] Qf a w) (fun(y:SyI)=>n-y.k) (⟨0,m1.H,t1.H⟩) ⟨⟨Nat.zero_le _,by show MatOk m1.g m1.cap m1.R (X4 n (mS La n 0 0)) m1.H; rw[mS_zero]; exact hM1,by show MatOk t1.g t1.cap t1.R (X4 n (tS La n 0 0)) t1.H; rw[tS_zero]; exact hC⟩,(hI.conv ⟨⟨0,_,_,rfl,⟨rfl,rfl,rfl⟩,rfl,fun _=>(fun _ _ k=>k)⟩,⟨1,_,_,rfl,⟨rfl,rfl,rfl⟩,rfl,fun _=>(fun _ _ k=>k)⟩,⟨2,_,_,rfl,⟨rfl,rfl,rfl⟩,rfl,fun _=>(pCel_to fun i hi w v k=>by rw[show Wt Lx 0 i=0 by unfold Wt; rw[if_neg (by omega)]]; exact k)⟩,trivial⟩ ⟨⟨rfl,rfl,0,_,rfl,fun _ _ h=>h⟩,⟨rfl,rfl,1,_,rfl,fun _ _ h=>h⟩,⟨rfl,rfl,2,_,rfl,fun _ _ h=>h⟩,⟨rfl,rfl,3,_,rfl,fun _ _ h=>h⟩,⟨rfl,rfl,4,_,rfl,fun _ _ h=>h⟩,⟨rfl,rfl,5,_,rfl,fun _ _ h=>h⟩,⟨rfl,rfl,6,_,rfl,(fun _ _ k=>k)⟩,⟨rfl,rfl,7,_,rfl,fun _ _ h=>h⟩,⟨rfl,rfl,8,_,rfl,(Xa rfl)⟩,trivial⟩)⟩ ?_
    intro y a w hIk
    obtain⟨⟨hqk,hq1,hq2⟩,hI⟩:=hIk
    refine Qh hI [] [] [⟨some 0,none,67,pB (decide ((y.k:Int)<(n:Int)))⟩] (.k (.k (.k .z))) (.k8 (.k .z)) rfl [0] (by kernel_rfl) ?_ (.k (.k (.k .z))) (.k8 (.kk .z)) fun a w hI=>?_
    ·exact⟨Qo (v:=.bool (decide ((y.k:Int)<(n:Int)))) (.tmp 8 rfl rfl) (.tmp 7 rfl rfl) (fun _=>rfl) (.here 9 rfl),trivial⟩
    refine wp_seq ?_
    refine Xd hI 9 rfl (fun ht=>?_) (fun ht=>?_)
    ·have t3:=of_decide_eq_true ht
     refine wp_skip ?_
     refine Qi ?_
     refine wp_seq ?_
     refine wp_block ?_
     refine Qh hI [] [] [⟨some 0,none,68,pI (y.k:Int)⟩,⟨some 1,none,15,pI (y.k:Int)⟩] (.k (.k (.k .z))) (.k8 (.kk .z)) rfl [0,1] (by kernel_rfl) ?_ (.k (.k (.k .z))) (.k8 (.kddk .z)) fun a w hI=>?_
     ·exact⟨Qa (.tmp 8 rfl rfl) (.here 10 rfl),Qc (.tmp 10 rfl rfl) (.here 11 rfl),trivial⟩
     refine wp_seq ?_
     refine Qh hI [] [] [⟨some 0,none,69,pI (n:Int)⟩,⟨some 1,none,70,pI 0⟩] (.k (.k (.k .z))) (.k8 (.kk .z)) rfl [0,1] (by kernel_rfl) ?_ (.k (.k (.k .z))) (.k8 (.kkkk .z)) fun a w hI=>?_
     ·exact⟨Qa (.tmp 2 rfl rfl) (.here 10 rfl),Qa (.const _) (.here 11 rfl),trivial⟩
     refine wp_block ?_
     refine Xn (fun(u:SyI) a w=>(u.k≤n∧MatOk m1.g m1.cap m1.R (X4 n (mS La n y.k u.k)) u.H1∧MatOk t1.g t1.cap t1.R (X4 n (tS La n y.k u.k)) u.H2)∧Inv ⟨306,w0,M,fun _=>False⟩ [⟨62,62,none,none,.obj,0,0,false,Zj u.H2,[]⟩,⟨56,56,none,none,.obj,0,0,false,Zj u.H1,[]⟩,⟨13,13,none,none,(.row n),32,(n*3),true,pv (Uy 3 true n (fun q=>Qk (Wt Lx y.k q))),[]⟩] [] [⟨none,none,2,Qg 1 false Lx.length (fun i=>Qe (.int .i8 (Lx.getD i 0)))⟩,⟨none,none,8,pB false⟩,⟨none,none,9,pI (n:Int)⟩,⟨none,none,10,Qe (.slice (some ⟨m1.g,0,none⟩) n m1.cap)⟩,⟨none,none,11,Qg 1 false n (fun i=>Qd ((C).getD i []))⟩,⟨none,none,12,Qe (.slice (some ⟨t1.g,0,none⟩) n t1.cap)⟩,⟨none,none,14,pB (Xm Lx y.k)⟩,⟨none,none,65,pI (n:Int)⟩,⟨none,none,66,pI (y.k:Int)⟩,⟨none,none,15,pI (y.k:Int)⟩,⟨none,none,69,pI (n:Int)⟩,⟨none,none,70,pI (u.k:Int)⟩] Qf a w) (fun(u:SyI)=>n-u.k) (⟨0,y.H1,y.H2⟩) ⟨⟨Nat.zero_le _,hq1,hq2⟩,(hI.conv ⟨⟨0,_,_,rfl,⟨rfl,rfl,rfl⟩,rfl,fun _=>(fun _ _ k=>k)⟩,⟨1,_,_,rfl,⟨rfl,rfl,rfl⟩,rfl,fun _=>(fun _ _ k=>k)⟩,⟨2,_,_,rfl,⟨rfl,rfl,rfl⟩,rfl,fun _=>fun _ _ h=>h⟩,trivial⟩ ⟨⟨rfl,rfl,0,_,rfl,fun _ _ h=>h⟩,⟨rfl,rfl,1,_,rfl,fun _ _ h=>h⟩,⟨rfl,rfl,2,_,rfl,fun _ _ h=>h⟩,⟨rfl,rfl,3,_,rfl,fun _ _ h=>h⟩,⟨rfl,rfl,4,_,rfl,fun _ _ h=>h⟩,⟨rfl,rfl,5,_,rfl,fun _ _ h=>h⟩,⟨rfl,rfl,6,_,rfl,fun _ _ h=>h⟩,⟨rfl,rfl,7,_,rfl,fun _ _ h=>h⟩,⟨rfl,rfl,8,_,rfl,fun _ _ h=>h⟩,⟨rfl,rfl,9,_,rfl,fun _ _ h=>h⟩,⟨rfl,rfl,10,_,rfl,fun _ _ h=>h⟩,⟨rfl,rfl,11,_,rfl,(Xa rfl)⟩,trivial⟩)⟩ ?_
     intro u a w hIk
     obtain⟨⟨huk,hU1,hU2⟩,hI⟩:=hIk
     refine Qh hI [] [] [⟨some 0,none,71,pB (decide ((u.k:Int)<(n:Int)))⟩] (.k (.k (.k .z))) (.k8 (.kkkk .z)) rfl [0] (by kernel_rfl) ?_ (.k (.k (.k .z))) (.k8 (.kkkk (.k .z))) fun a w hI=>?_
     ·exact⟨Qo (v:=.bool (decide ((u.k:Int)<(n:Int)))) (.tmp 11 rfl rfl) (.tmp 10 rfl rfl) (fun _=>rfl) (.here 12 rfl),trivial⟩
     refine wp_seq ?_
     refine Xd hI 12 rfl (fun ht=>?_) (fun ht=>?_)
     ·have t4:=of_decide_eq_true ht
      refine wp_skip ?_
      refine Qi ?_
      refine wp_seq ?_
      refine wp_block ?_
      refine Qh hI [] [] [⟨some 0,none,72,pI (u.k:Int)⟩,⟨some 1,none,16,pI (u.k:Int)⟩] (.k (.k (.k .z))) (.k8 (.kkkk (.k .z))) rfl [0,1] (by kernel_rfl) ?_ (.k (.k (.k .z))) (.k8 (.kkkk (.ddk .z))) fun a w hI=>?_
      ·exact⟨Qa (.tmp 11 rfl rfl) (.here 13 rfl),Qc (.tmp 13 rfl rfl) (.here 14 rfl),trivial⟩
      obtain⟨ri,hri⟩:=hU1.get (i:=y.k) (by rw[Zg]; omega)
      obtain⟨rm,hrm⟩:=hU1.get (i:=min y.k u.k) (by rw[Zg]; omega)
      obtain⟨si,hsi⟩:=hU2.get (i:=y.k) (by rw[Zg]; omega)
      have fi:=hU1.fit _ _ hri
      have fm:=hU1.fit _ _ hrm
      have fs:=hU2.fit _ _ hsi
      rw[Wg _ (by rw[Zg]; omega)]at fi fm fs
      have hun1:=hI.uniq 1 rfl
      have hun2:=hI.uniq 0 rfl
      have hV1:MatOk m1.g m1.cap m1.R (X4 n (mS La n y.k (u.k+1))) (Xs u.H1 ri.b u.k (Zl (Jt La n y.k u.k))):=by have k:=hU1.setItem (v:=Jt La n y.k u.k) (by omega) (show u.k<n by omega) hri hun1; rw[mS_step]at k; exact k
      refine seq_D hI [] [] [⟨some 0,none,73,Qe (.slice (some ⟨m1.g,0,none⟩) n m1.cap)⟩,⟨some 1,none,74,pI (y.k:Int)⟩,⟨some 2,none,75,Qe (.pointer (some ⟨m1.g,0+((y.k:Int)).toNat*1,none⟩))⟩,⟨some 3,none,76,Qe (.slice (some ⟨ri.b,0,none⟩) ri.n ri.cap)⟩,⟨some 4,none,77,pI (u.k:Int)⟩,⟨some 5,none,78,Qe (.slice (some ⟨m1.g,0,none⟩) n m1.cap)⟩,⟨some 6,none,79,pI (y.k:Int)⟩,⟨some 7,none,80,pI (u.k:Int)⟩,⟨some 8,none,81,pI ((min y.k u.k:Nat):Int)⟩,⟨some 9,none,82,Qe (.pointer (some ⟨m1.g,0+(((min y.k u.k:Nat):Int)).toNat*1,none⟩))⟩,⟨some 10,none,83,Qe (.slice (some ⟨rm.b,0,none⟩) rm.n rm.cap)⟩,⟨some 11,none,84,pI (y.k:Int)⟩,⟨some 12,none,85,pI (u.k:Int)⟩,⟨some 13,none,86,pI ((max y.k u.k:Nat):Int)⟩,⟨some 14,none,87,Qe (.pointer (some ⟨rm.b,0+(((max y.k u.k:Nat):Int)).toNat*3,none⟩))⟩,⟨some 15,none,88,Qk (Jt La n y.k u.k)⟩,⟨some 16,none,89,Qe (.pointer (some ⟨ri.b,0+((u.k:Int)).toNat*3,none⟩))⟩] (.k (.u none [(17,Zj (Xs u.H1 ri.b u.k (Zl (Jt La n y.k u.k))))] (.k .z))) (.k8 (.kkkk (.k .z))) rfl [0,0,3,7,0,0,0,0,192,480,992,0,0,6144,16352,32736,65535,131071] (by kernel_rfl) ?_ (.k (.s .o (.k .z))) (.k8 (.kkkk (.kddd (.d8 (.dddd (.dd .z)))))) fun a w hI=>?_
      ·exact⟨Qa (.tmp 3 rfl rfl) (.here 13 rfl),Qa (.tmp 9 rfl rfl) (.here 14 rfl),Qs (.tmp 13 rfl rfl) (.tmp 14 rfl rfl) Qx (by omega) (by omega) (by kernel_rfl) (.here 15 rfl),Q5 (e:=⟨m1.g,1,false,Y7 m1.R⟩) (idx:=y.k) 1 rfl rfl rfl (by kernel_rfl) rfl (.tmp 15 rfl rfl) hU1.top rfl (Ju hri) (show 0+((y.k:Int)).toNat*1=(y.k)*1 by omega) Q1 (.here 16 rfl),Qa (.tmp 12 rfl rfl) (.here 17 rfl),Qa (.tmp 3 rfl rfl) (.here 18 rfl),Qa (.tmp 9 rfl rfl) (.here 19 rfl),Qa (.tmp 12 rfl rfl) (.here 20 rfl),op_min2n (.tmp 19 rfl rfl) (.tmp 20 rfl rfl) (.here 21 rfl),Qs (.tmp 18 rfl rfl) (.tmp 21 rfl rfl) Qx (by omega) (by omega) (by kernel_rfl) (.here 22 rfl),Q5 (e:=⟨m1.g,1,false,Y7 m1.R⟩) (idx:=(min y.k u.k)) 1 rfl rfl rfl (by kernel_rfl) rfl (.tmp 22 rfl rfl) hU1.top rfl (Ju hrm) (show 0+(((min y.k u.k:Nat):Int)).toNat*1=((min y.k u.k))*1 by omega) Q1 (.here 23 rfl),Qa (.tmp 9 rfl rfl) (.here 24 rfl),Qa (.tmp 12 rfl rfl) (.here 25 rfl),op_max2n (.tmp 24 rfl rfl) (.tmp 25 rfl rfl) (.here 26 rfl),Qs (.tmp 23 rfl rfl) (.tmp 26 rfl rfl) Qy (by omega) (by omega) (by kernel_rfl) (.here 27 rfl),Q5 (e:=⟨rm.b,3,true,Qw ((X4 n (mS La n y.k u.k)).getD (min y.k u.k) []) rm.cap⟩) (idx:=(max y.k u.k)) 1 rfl rfl rfl (by kernel_rfl) rfl (.tmp 27 rfl rfl) (hU1.rows _ _ hrm) rfl (by show(Qw _ _)[_]?=_; rw[X5 (by rw[Wg _ (by rw[Zg]; omega)]; omega),Qb8 (by omega) (by omega),mS_up]) (show 0+(((max y.k u.k:Nat):Int)).toNat*3=((max y.k u.k))*3 by omega) Qr (.here 28 rfl),Qs (.tmp 16 rfl rfl) (.tmp 17 rfl rfl) Qy (by omega) (by omega) (by kernel_rfl) (.here 29 rfl),Zx (e:=⟨ri.b,3,true,Qw ((X4 n (mS La n y.k u.k)).getD y.k []) ri.cap⟩) (idx:=u.k) (it:=Zl (Jt La n y.k u.k)) 1 rfl rfl rfl (by kernel_rfl) 0 rfl (by kernel_rfl) (by kernel_rfl) rfl (.tmp 29 rfl rfl) (hU1.rows _ _ hri) rfl (Vd (by rw[Wg _ (by rw[Zg]; omega)]; omega)) (show 0+((u.k:Int)).toNat*3=(u.k)*3 by omega) Qr (.tmp 28 rfl rfl) (Xb _),trivial⟩
      refine sem_D hI [] [] [⟨some 0,none,90,Qe (.slice (some ⟨t1.g,0,none⟩) n t1.cap)⟩,⟨some 1,none,91,pI (y.k:Int)⟩,⟨some 2,none,92,Qe (.pointer (some ⟨t1.g,0+((y.k:Int)).toNat*1,none⟩))⟩,⟨some 3,none,93,Qe (.slice (some ⟨si.b,0,none⟩) si.n si.cap)⟩,⟨some 4,none,94,pI (u.k:Int)⟩,⟨some 5,none,95,Qe (.slice (some ⟨m1.g,0,none⟩) n m1.cap)⟩,⟨some 6,none,96,pI (y.k:Int)⟩,⟨some 7,none,97,Qe (.pointer (some ⟨m1.g,0+((y.k:Int)).toNat*1,none⟩))⟩,⟨some 8,none,98,Qe (.slice (some ⟨ri.b,0,none⟩) ri.n ri.cap)⟩,⟨some 9,none,99,pI (u.k:Int)⟩,⟨some 10,none,100,Qe (.pointer (some ⟨ri.b,0+((u.k:Int)).toNat*3,none⟩))⟩,⟨some 11,none,101,Qk (Jt La n y.k u.k)⟩,⟨some 12,none,102,Qk (-(Jt La n y.k u.k))⟩,⟨some 13,none,103,Qe (.pointer (some ⟨si.b,0+((u.k:Int)).toNat*3,none⟩))⟩] (.u none [(14,Zj (Xs u.H2 si.b u.k (Zl (-(Jt La n y.k u.k)))))] (.k (.k .z))) (.k8 (.kkkk (.k .z))) rfl [0,0,3,7,0,0,0,96,224,0,992,2016,4064,8191,16383] (by kernel_rfl) ?_ (.s .o (.k (.k .z))) (.k8 (.kkkk (.d8 (.dddd (.ddd .z))))) fun a w hI=>?_
      ·exact⟨Qa (.tmp 5 rfl rfl) (.here 13 rfl),Qa (.tmp 9 rfl rfl) (.here 14 rfl),Qs (.tmp 13 rfl rfl) (.tmp 14 rfl rfl) Qx (by omega) (by omega) (by kernel_rfl) (.here 15 rfl),Q5 (e:=⟨t1.g,1,false,Y7 t1.R⟩) (idx:=y.k) 0 rfl rfl rfl (by kernel_rfl) rfl (.tmp 15 rfl rfl) hU2.top rfl (Ju hsi) (show 0+((y.k:Int)).toNat*1=(y.k)*1 by omega) Q1 (.here 16 rfl),Qa (.tmp 12 rfl rfl) (.here 17 rfl),Qa (.tmp 3 rfl rfl) (.here 18 rfl),Qa (.tmp 9 rfl rfl) (.here 19 rfl),Qs (.tmp 18 rfl rfl) (.tmp 19 rfl rfl) Qx (by omega) (by omega) (by kernel_rfl) (.here 20 rfl),Q5 (e:=⟨m1.g,1,false,Y7 m1.R⟩) (idx:=y.k) 1 rfl rfl rfl (by kernel_rfl) rfl (.tmp 20 rfl rfl) hV1.top rfl (Ju hri) (show 0+((y.k:Int)).toNat*1=(y.k)*1 by omega) Q1 (.here 21 rfl),Qa (.tmp 12 rfl rfl) (.here 22 rfl),Qs (.tmp 21 rfl rfl) (.tmp 22 rfl rfl) Qy (by omega) (by omega) (by kernel_rfl) (.here 23 rfl),Q5 (e:=⟨ri.b,3,true,Qw ((X4 n (mS La n y.k (u.k+1))).getD y.k []) ri.cap⟩) (idx:=u.k) 1 rfl rfl rfl (by kernel_rfl) rfl (.tmp 23 rfl rfl) (hV1.rows _ _ hri) rfl (by show(Qw _ _)[_]?=_; rw[X5 (by rw[Wg _ (by rw[Zg]; omega)]; omega),Qb8 (by omega) (by omega),mS_at]) (show 0+((u.k:Int)).toNat*3=(u.k)*3 by omega) Qr (.here 24 rfl),Y2 (fun _ _=>by kernel_rfl) (Xr _) (.tmp 24 rfl rfl) (.here 25 rfl) (c_neg _),Qs (.tmp 16 rfl rfl) (.tmp 17 rfl rfl) Qy (by omega) (by omega) (by kernel_rfl) (.here 26 rfl),Zx (e:=⟨si.b,3,true,Qw ((X4 n (tS La n y.k u.k)).getD y.k []) si.cap⟩) (idx:=u.k) (it:=Zl (-(Jt La n y.k u.k))) 0 rfl rfl rfl (by kernel_rfl) 0 rfl (by kernel_rfl) (by kernel_rfl) rfl (.tmp 26 rfl rfl) (hU2.rows _ _ hsi) rfl (Vd (by rw[Wg _ (by rw[Zg]; omega)]; omega)) (show 0+((u.k:Int)).toNat*3=(u.k)*3 by omega) Qr (.tmp 25 rfl rfl) (Xb _),trivial⟩
      refine Xw ?_
      refine Qi ?_
      refine Yx hI [] [] [⟨some 0,none,104,pI ((u.k:Int)+(1:Int))⟩,⟨some 1,none,70,pI ((u.k:Int)+(1:Int))⟩] (.k (.k (.k .z))) (.k8 (.kkk (.t 1 .z))) rfl [0,1] (by kernel_rfl) ?_ (.k (.k (.k .z))) (.k8 (.kkkd (.dk .z))) fun a w hI=>?_
      ·exact⟨Qo (v:=.int .i64 (IntKind.i64.wrap ((u.k:Int)+(1:Int)))) (.tmp 11 rfl rfl) (.const _) (fun _=>rfl) (.at_ 12 _ _ rfl (Xe (by omega))),Qa (.tmp 12 rfl rfl) (.here 13 rfl),trivial⟩
      refine Qi ?_
      exact⟨⟨u.k+1,Xs u.H1 ri.b u.k (Zl (Jt La n y.k u.k)),Xs u.H2 si.b u.k (Zl (-(Jt La n y.k u.k)))⟩,⟨⟨by show u.k+1≤n; omega,hV1,by have k:=hU2.setItem (v :=-(Jt La n y.k u.k)) (by omega) (show u.k<n by omega) hsi hun2; rw[tS_step]at k; exact k⟩,(hI.conv ⟨⟨0,_,_,rfl,⟨rfl,rfl,rfl⟩,rfl,fun _=>(fun _ _ k=>k)⟩,⟨1,_,_,rfl,⟨rfl,rfl,rfl⟩,rfl,fun _=>(fun _ _ k=>k)⟩,⟨2,_,_,rfl,⟨rfl,rfl,rfl⟩,rfl,fun _=>fun _ _ h=>h⟩,trivial⟩ ⟨⟨rfl,rfl,0,_,rfl,fun _ _ h=>h⟩,⟨rfl,rfl,1,_,rfl,fun _ _ h=>h⟩,⟨rfl,rfl,2,_,rfl,fun _ _ h=>h⟩,⟨rfl,rfl,3,_,rfl,fun _ _ h=>h⟩,⟨rfl,rfl,4,_,rfl,fun _ _ h=>h⟩,⟨rfl,rfl,5,_,rfl,fun _ _ h=>h⟩,⟨rfl,rfl,6,_,rfl,fun _ _ h=>h⟩,⟨rfl,rfl,7,_,rfl,fun _ _ h=>h⟩,⟨rfl,rfl,8,_,rfl,fun _ _ h=>h⟩,⟨rfl,rfl,9,_,rfl,fun _ _ h=>h⟩,⟨rfl,rfl,10,_,rfl,fun _ _ h=>h⟩,⟨rfl,rfl,11,_,rfl,(Xa (by show((u.k:Int)+1)=((u.k+1:Nat):Int); omega))⟩,trivial⟩)⟩,(show n-(u.k+1)<n-u.k by omega)⟩
     ·have t5:=of_decide_eq_false ht
      refine wp_exit ?_
      refine Qz ?_
      refine Qz ?_
      refine Xl ?_
      refine Qi ?_
      refine Qh hI [] [] [⟨some 0,none,105,pI (y.k:Int)⟩,⟨some 1,none,106,Qg 1 false Lx.length (fun i=>Qe (.int .i8 (Lx.getD i 0)))⟩,⟨some 2,none,107,pI (Lx.length:Int)⟩,⟨some 3,none,108,pB (decide ((y.k:Int)<(Lx.length:Int)))⟩] (.k (.k (.k .z))) (.k8 (.kkkk (.k .z))) rfl [0,1,3,7] (by kernel_rfl) ?_ (.k (.k (.k .z))) (.k8 (.kkdd (.dddd (.k .z)))) fun a w hI=>?_
      ·exact⟨Qa (.tmp 9 rfl rfl) (.here 13 rfl),Qa (.tmp 0 rfl rfl) (.here 14 rfl),Yy (.tmp 14 rfl rfl) (U0).under (.here 15 rfl),Qo (v:=.bool (decide ((y.k:Int)<(Lx.length:Int)))) (.tmp 13 rfl rfl) (.tmp 15 rfl rfl) (fun _=>rfl) (.here 16 rfl),trivial⟩
      refine Xd hI 10 rfl (fun ht=>?_) (fun ht=>?_)
      ·have t6:=of_decide_eq_true ht
       obtain⟨gv,hI⟩:=hI.openRow 2 rfl rfl rfl
       have hx8:=h.hx y.k
       refine Qh hI [] [] [⟨some 0,none,109,Qe (.slice (some ⟨gv,0,none⟩) n n)⟩,⟨some 1,none,110,pI (y.k:Int)⟩,⟨some 2,none,111,Qg 1 false Lx.length (fun i=>Qe (.int .i8 (Lx.getD i 0)))⟩,⟨some 3,none,112,pI (y.k:Int)⟩,⟨some 4,none,113,Zc 1 false (Qe (.int .i8 (Lx.getD y.k 0)))⟩,⟨some 5,none,114,Qe (.int .i8 (Lx.getD y.k 0))⟩,⟨some 6,none,115,pI (Lx.getD y.k 0)⟩,⟨some 7,none,116,Qk ((Lx.getD y.k 0:Int):Rat)⟩,⟨some 8,none,117,Qe (.pointer (some ⟨gv,0+((y.k:Int)).toNat*3,none⟩))⟩] (.k (.k (.u none [(9,pv (Uy 3 true n (setP (fun q=>Qk (Wt Lx y.k q)) y.k (Qk ((Lx.getD y.k 0:Int):Rat)))))] .z))) (.k8 (.kkkk .z)) rfl [0,1,3,7,15,31,63,127,255,511] (by kernel_rfl) ?_ (.k (.k (.s .o .z))) (.k8 (.kkkd (.d8 (.d .z)))) fun a w hI=>?_
       ·exact⟨Qa (.tmp 0 rfl rfl) (.here 12 rfl),Qa (.tmp 10 rfl rfl) (.here 13 rfl),Qa (.tmp 1 rfl rfl) (.here 14 rfl),Qa (.tmp 10 rfl rfl) (.here 15 rfl),Xi (.tmp 14 rfl rfl) (.tmp 15 rfl rfl) U0 (by omega) (by omega) (by kernel_rfl) (.at_ 16 _ _ rfl (by rw[Int.toNat_natCast]; exact fun _ _ h=>h)),X6 (.tmp 16 rfl rfl) ty_int8 (fits_i8 _) (.here 17 rfl),op_conv (.tmp 17 rfl rfl) (fun _=>by kernel_rfl) (.at_ 18 _ _ rfl (Xe (by omega))),Y2 (fun _ _=>by kernel_rfl) (Xr _) (.tmp 18 rfl rfl) (.here 19 rfl) (c_int (Lx.getD y.k 0) (by omega) (by omega)),Qs (.tmp 12 rfl rfl) (.tmp 13 rfl rfl) Qy (by omega) (by omega) (by kernel_rfl) (.here 20 rfl),op_storeC (sz:=3) (n:=n) (q:=y.k) (ag:=true) (f:=fun q=>Qk (Wt Lx y.k q)) (p:=Qk ((Lx.getD y.k 0:Int):Rat)) 2 rfl rfl rfl (by kernel_rfl) rfl rfl 0 rfl (by kernel_rfl) (by kernel_rfl) (.tmp 0 rfl rfl) (.tmp 20 rfl rfl) (show 0+((y.k:Int)).toNat*3=y.k*3 by omega) (by omega) Qr rfl (.tmp 19 rfl rfl) (Xb _),trivial⟩
       refine Yx hI [] [] [⟨some 0,none,118,pB (Xm Lx y.k)⟩,⟨some 1,none,119,pB (Xm Lx y.k)⟩,⟨some 2,none,120,Yp ((Xm Lx y.k)=true) (Qg 1 false Lx.length (fun i=>Qe (.int .i8 (Lx.getD i 0))))⟩,⟨some 3,none,121,Yp ((Xm Lx y.k)=true) (pI (y.k:Int))⟩,⟨some 4,none,122,Yp ((Xm Lx y.k)=true) (Zc 1 false (Qe (.int .i8 (Lx.getD y.k 0))))⟩,⟨some 5,none,123,Yp ((Xm Lx y.k)=true) (Qe (.int .i8 (Lx.getD y.k 0)))⟩,⟨some 6,none,124,Yp ((Xm Lx y.k)=true) (pB ((Lx.getD y.k 0)==(0:Int)))⟩,⟨some 7,none,125,pB ((Xm Lx y.k)&&((Lx.getD y.k 0)==(0:Int)))⟩,⟨some 8,none,14,pB ((Xm Lx y.k)&&((Lx.getD y.k 0)==(0:Int)))⟩] (.k (.k (.k .z))) (.kkkk (.kkk (.t 8 (.kkk .z)))) rfl [0,1,3,7,15,31,63,127,255] (by kernel_rfl) ?_ (.k (.k (.k .z))) (.kkkk (.kkkd (.kkdd (.dkkk (.kkdk .z))))) fun a w hI=>?_
       ·exact⟨Qa (.tmp 7 rfl rfl) (.here 11 rfl),Qa (.tmp 11 rfl rfl) (.here 12 rfl),Yo 12 rfl rfl (fun hc=>Qa (.tmp 1 rfl rfl) (.sel hc 13 rfl)) (by kernel_rfl) (fun _=>.none (by kernel_rfl)) (fun hc=>.sel_no hc 13 rfl),Yo 12 rfl rfl (fun hc=>Qa (.tmp 10 rfl rfl) (.sel hc 14 rfl)) (by kernel_rfl) (fun _=>.none (by kernel_rfl)) (fun hc=>.sel_no hc 14 rfl),Yo 12 rfl rfl (fun hc=>Xi (.sel (.tmp 13 rfl rfl) hc) (.sel (.tmp 14 rfl rfl) hc) U0 (by omega) (by omega) (by kernel_rfl) (.sel hc 15 rfl)) (by kernel_rfl) (fun _=>.none (by kernel_rfl)) (fun hc=>.sel_no hc 15 rfl),Yo 12 rfl rfl (fun hc=>X6 (.sel (.tmp 15 rfl rfl) hc) ty_int8 (fits_i8 _) (.sel hc 16 rfl)) (by kernel_rfl) (fun _=>.none (by kernel_rfl)) (fun hc=>.sel_no hc 16 rfl),Yo 12 rfl rfl (fun hc=>Qo (v:=.bool (((Lx.getD y.k 0)==(0:Int)))) (.sel (.tmp 16 rfl rfl) hc) (.const _) (fun _=>rfl) (.sel hc 17 rfl)) (by kernel_rfl) (fun _=>.none (by kernel_rfl)) (fun hc=>.sel_no hc 17 rfl),Yf (.tmp 12 rfl rfl) (fun h=>.imp (.sel (.tmp 17 rfl rfl) (h)) fun _ _ e=>by rw[h]; exact e) (fun h=>.imp (.const _) fun _ _ e=>by rw[h]; exact e) (.here 18 rfl),Qc (.tmp 18 rfl rfl) (.here 19 rfl),trivial⟩
       refine Xw ?_
       refine Qi ?_
       refine Yx hI [] [] [⟨some 0,none,126,pI ((y.k:Int)+(1:Int))⟩,⟨some 1,none,66,pI ((y.k:Int)+(1:Int))⟩] (.k (.k (.k .z))) (.k8 (.t 1 (.kkkk (.kk .z)))) rfl [0,1] (by kernel_rfl) ?_ (.k (.k (.k .z))) (.k8 (.dkkk (.kkkd (.k .z)))) fun a w hI=>?_
       ·exact⟨Qo (v:=.int .i64 (IntKind.i64.wrap ((y.k:Int)+(1:Int)))) (.tmp 8 rfl rfl) (.const _) (fun _=>rfl) (.at_ 15 _ _ rfl (Xe (by omega))),Qa (.tmp 15 rfl rfl) (.here 16 rfl),trivial⟩
       refine Qi ?_
       exact⟨⟨y.k+1,u.H1,u.H2⟩,⟨⟨by show y.k+1≤n; omega,by have k:=hU1; rw[show u.k=n by omega,mS_next]at k; exact k,by have k:=hU2; rw[show u.k=n by omega,tS_next]at k; exact k⟩,(hI.conv ⟨⟨0,_,_,rfl,⟨rfl,rfl,rfl⟩,rfl,fun _=>(fun _ _ k=>k)⟩,⟨1,_,_,rfl,⟨rfl,rfl,rfl⟩,rfl,fun _=>(fun _ _ k=>k)⟩,⟨2,_,_,rfl,⟨rfl,rfl,rfl⟩,rfl,fun _=>(pCel_to fun i hi w v k=>by unfold setP at k; split at k; (rename_i e; subst e; rw[← vec_step (by omega),if_pos rfl]; exact k); (rename_i e; rw[← vec_step (by omega),if_neg e]; exact k))⟩,trivial⟩ ⟨⟨rfl,rfl,1,_,rfl,fun _ _ h=>h⟩,⟨rfl,rfl,2,_,rfl,fun _ _ h=>h⟩,⟨rfl,rfl,3,_,rfl,fun _ _ h=>h⟩,⟨rfl,rfl,4,_,rfl,fun _ _ h=>h⟩,⟨rfl,rfl,5,_,rfl,fun _ _ h=>h⟩,⟨rfl,rfl,6,_,rfl,fun _ _ h=>h⟩,⟨rfl,rfl,13,_,rfl,(Zy (nullN_yes (by omega)))⟩,⟨rfl,rfl,7,_,rfl,fun _ _ h=>h⟩,⟨rfl,rfl,14,_,rfl,(Xa (by show((y.k:Int)+1)=((y.k+1:Nat):Int); omega))⟩,trivial⟩)⟩,(show n-(y.k+1)<n-y.k by omega)⟩
      ·have t7:=of_decide_eq_false ht
       refine wp_skip ?_
       refine Xw ?_
       refine Qi ?_
       refine Yx hI [] [] [⟨some 0,none,126,pI ((y.k:Int)+(1:Int))⟩,⟨some 1,none,66,pI ((y.k:Int)+(1:Int))⟩] (.k (.k (.k .z))) (.k8 (.t 1 (.kk .z))) rfl [0,1] (by kernel_rfl) ?_ (.k (.k (.k .z))) (.k8 (.dddd (.k .z))) fun a w hI=>?_
       ·exact⟨Qo (v:=.int .i64 (IntKind.i64.wrap ((y.k:Int)+(1:Int)))) (.tmp 8 rfl rfl) (.const _) (fun _=>rfl) (.at_ 11 _ _ rfl (Xe (by omega))),Qa (.tmp 11 rfl rfl) (.here 12 rfl),trivial⟩
       refine Qi ?_
       exact⟨⟨y.k+1,u.H1,u.H2⟩,⟨⟨by show y.k+1≤n; omega,by have k:=hU1; rw[show u.k=n by omega,mS_next]at k; exact k,by have k:=hU2; rw[show u.k=n by omega,tS_next]at k; exact k⟩,(hI.conv ⟨⟨0,_,_,rfl,⟨rfl,rfl,rfl⟩,rfl,fun _=>(fun _ _ k=>k)⟩,⟨1,_,_,rfl,⟨rfl,rfl,rfl⟩,rfl,fun _=>(fun _ _ k=>k)⟩,⟨2,_,_,rfl,⟨rfl,rfl,rfl⟩,rfl,fun _=>(pCel_to fun i hi w v k=>by rw[← vec_skip (by omega)]; exact k)⟩,trivial⟩ ⟨⟨rfl,rfl,0,_,rfl,fun _ _ h=>h⟩,⟨rfl,rfl,1,_,rfl,fun _ _ h=>h⟩,⟨rfl,rfl,2,_,rfl,fun _ _ h=>h⟩,⟨rfl,rfl,3,_,rfl,fun _ _ h=>h⟩,⟨rfl,rfl,4,_,rfl,fun _ _ h=>h⟩,⟨rfl,rfl,5,_,rfl,fun _ _ h=>h⟩,⟨rfl,rfl,6,_,rfl,(Zy (nullN_no (by omega)))⟩,⟨rfl,rfl,7,_,rfl,fun _ _ h=>h⟩,⟨rfl,rfl,8,_,rfl,(Xa (by show((y.k:Int)+1)=((y.k+1:Nat):Int); omega))⟩,trivial⟩)⟩,(show n-(y.k+1)<n-y.k by omega)⟩
    ·have t8:=of_decide_eq_false ht
     refine wp_exit ?_
     refine Qz ?_
     refine Qz ?_
     refine Xl ?_
     refine Qi ?_
     have hM:=hq1
     rw[show y.k=n by omega,mS_end,← h.eX]at hM
     have hT:=hq2
     rw[show y.k=n by omega,tS_end,← h.eY]at hT
     have hlX:=h.lX
     have hlY:=h.lY
     replace hI:=hI.restObj (n0:=1) (slot:=10) (k:=3) (p:=Qg 1 false n (fun i=>Qd ((X).getD i []))) rfl (by kernel_rfl) rfl (fun B w hH=>by have k:=Qb5 hH hM (Nat.zero_le _); rw[hlX,Nat.sub_zero]at k; exact Ug rfl (fun i hi w v h=>by rw[Nat.zero_add]at h; exact h) w _ k)
     replace hI:=hI.restObj (n0:=0) (slot:=12) (k:=5) (p:=Qg 1 false n (fun i=>Qd ((Y).getD i []))) rfl (by kernel_rfl) rfl (fun B w hH=>by have k:=Qb5 hH hT (Nat.zero_le _); rw[hlY,Nat.sub_zero]at k; exact Ug rfl (fun i hi w v h=>by rw[Nat.zero_add]at h; exact h) w _ k)
     obtain⟨gv2,hI⟩:=hI.openRow 0 rfl rfl rfl
     replace hI:=hI.restRow (n0:=0) (k0:=0) (f':=(fun i=>Qk (V.getD i 0))) rfl (by kernel_rfl) (by omega) (fun i hi w v k=>by rw[show V.getD i 0=Wt Lx y.k i by rw[h.eV,show y.k=n by omega]; exact X0 hi]; exact k)
     refine Qh hI [] [] [⟨some 0,none,128,Qg 1 false n (fun i=>Qd ((X).getD i []))⟩,⟨some 1,none,129,Wi (pI (p:Int)) (pI (q:Int)) (pI (z:Int)) (pI 0)⟩,⟨some 2,none,127,Wi (pI (p:Int)) (pI (q:Int)) (pI (z:Int)) (pI 0)⟩,⟨some 3,none,130,pI (p:Int)⟩,⟨some 4,none,131,pI (q:Int)⟩,⟨some 5,none,132,pI (z:Int)⟩,⟨some 6,none,133,pI 0⟩,⟨some 7,none,17,pI (p:Int)⟩,⟨some 8,none,18,pI (q:Int)⟩,⟨some 9,none,19,pI (z:Int)⟩,⟨some 10,none,20,pI 0⟩] .z (.k8 (.kkk .z)) rfl [0,1,3,7,15,31,63,127,255,511,1023] (by kernel_rfl) ?_ .z (.kkkd (.kkkk (.d8 (.ddkk (.kk .z))))) fun a w hI=>?_
     ·exact⟨Qa (.tmp 2 rfl rfl) (.here 11 rfl),Zn (fun _ _=>by kernel_rfl) (.tmp 11 rfl rfl) (.here 12 rfl) (sy_inX h),Qa (.tmp 12 rfl rfl) (.here 13 rfl),Xo (.tmp 13 rfl rfl) ex4_0 (.here 14 rfl),Xo (.tmp 13 rfl rfl) ex4_1 (.here 15 rfl),Xo (.tmp 13 rfl rfl) ex4_2 (.here 16 rfl),Xo (.tmp 13 rfl rfl) ex4_3 (.here 17 rfl),Qc (.tmp 14 rfl rfl) (.here 18 rfl),Qc (.tmp 15 rfl rfl) (.here 19 rfl),Qc (.tmp 16 rfl rfl) (.here 20 rfl),Qc (.tmp 17 rfl rfl) (.here 21 rfl),trivial⟩
     refine Qh hI [] [] [⟨some 0,none,135,Qg 1 false n (fun i=>Qd ((Y).getD i []))⟩,⟨some 1,none,136,Wi (pI (q:Int)) (pI (p:Int)) (pI (z:Int)) (pI 0)⟩,⟨some 2,none,134,Wi (pI (q:Int)) (pI (p:Int)) (pI (z:Int)) (pI 0)⟩,⟨some 3,none,137,pI (q:Int)⟩,⟨some 4,none,138,pI (p:Int)⟩,⟨some 5,none,139,pI (z:Int)⟩,⟨some 6,none,140,pI 0⟩,⟨some 7,none,21,pI (q:Int)⟩,⟨some 8,none,22,pI (p:Int)⟩,⟨some 9,none,23,pI (z:Int)⟩,⟨some 10,none,24,pI 0⟩] .z (.k8 (.kkk .z)) rfl [0,1,3,7,15,31,63,127,255,511,1023] (by kernel_rfl) ?_ .z (.kdkk (.kkkk (.kkkd (.dddd (.ddkk (.kk .z)))))) fun a w hI=>?_
     ·exact⟨Qa (.tmp 1 rfl rfl) (.here 11 rfl),Zn (fun _ _=>by kernel_rfl) (.tmp 11 rfl rfl) (.here 12 rfl) (sy_inY h),Qa (.tmp 12 rfl rfl) (.here 13 rfl),Xo (.tmp 13 rfl rfl) ex4_0 (.here 14 rfl),Xo (.tmp 13 rfl rfl) ex4_1 (.here 15 rfl),Xo (.tmp 13 rfl rfl) ex4_2 (.here 16 rfl),Xo (.tmp 13 rfl rfl) ex4_3 (.here 17 rfl),Qc (.tmp 14 rfl rfl) (.here 18 rfl),Qc (.tmp 15 rfl rfl) (.here 19 rfl),Qc (.tmp 16 rfl rfl) (.here 20 rfl),Qc (.tmp 17 rfl rfl) (.here 21 rfl),trivial⟩
     refine Qh hI [⟨25,25,some 5,none,.ptr,32,3,true,pv (Qk 0),[(6,pv (Qk (Za X)))]⟩] [] [⟨some 0,none,142,Qg 1 false n (fun i=>Qd ((X).getD i []))⟩,⟨some 1,none,143,Zd (Qk (Za X)) (pI 0)⟩,⟨some 2,none,141,Zd (Qk (Za X)) (pI 0)⟩,⟨some 3,none,144,Qk (Za X)⟩,⟨some 4,none,145,pI 0⟩,⟨some 7,none,26,pI 0⟩] .z (.k8 (.kkkk (.kk .z))) rfl [0,1,3,7,15,31,63,127] (by kernel_rfl) ?_ (.s .o .z) (.k8 (.kkkk (.kkdd (.dddk .z)))) fun a w hI=>?_
     ·exact⟨Qa (.tmp 1 rfl rfl) (.here 14 rfl),Zn (fun _ _=>by kernel_rfl) (.tmp 14 rfl rfl) (.here 15 rfl) (sy_detX h),Qa (.tmp 15 rfl rfl) (.here 16 rfl),Xo (.tmp 16 rfl rfl) ex2_0 (.here 17 rfl),Xo (.tmp 16 rfl rfl) ex2_1 (.here 18 rfl),J4 0 rfl rfl (by kernel_rfl) (by kernel_rfl) rfl rfl rfl Jj rfl rfl (by simp[Yr]) rfl (fun w=>Yl w),Zo 0 rfl rfl rfl rfl 0 rfl (by kernel_rfl) (by kernel_rfl) Qr (.tmp 17 rfl rfl) (Xb _),Qc (.tmp 18 rfl rfl) (.here 19 rfl),trivial⟩
     refine wp_seq ?_
     refine Qh hI [] [] [⟨some 0,none,146,pI 0⟩,⟨some 1,none,147,pI 0⟩,⟨some 2,none,148,pI 0⟩,⟨some 3,none,149,pI 0⟩,⟨some 4,none,150,pB false⟩,⟨some 5,none,151,pB false⟩,⟨some 6,none,152,pI (p:Int)⟩,⟨some 7,none,153,pB false⟩,⟨some 8,none,154,pB false⟩,⟨some 9,none,155,pB false⟩,⟨some 10,none,156,pI (q:Int)⟩,⟨some 11,none,157,pB false⟩,⟨some 12,none,158,pB false⟩,⟨some 13,none,159,pB false⟩,⟨some 14,none,160,pI (z:Int)⟩,⟨some 15,none,161,pB false⟩,⟨some 16,none,162,pB false⟩,⟨some 17,none,163,pB false⟩,⟨some 18,none,164,pI (p:Int)⟩,⟨some 19,none,165,pI (q:Int)⟩,⟨some 20,none,166,pI ((p:Int)+(q:Int))⟩,⟨some 21,none,167,pI (z:Int)⟩,⟨some 22,none,168,pI (((p:Int)+(q:Int))+(z:Int))⟩,⟨some 23,none,169,pI (n:Int)⟩,⟨some 24,none,170,pB false⟩,⟨some 25,none,171,pB false⟩,⟨some 26,none,172,pB false⟩,⟨some 27,none,173,pI (q:Int)⟩,⟨some 28,none,174,pI (q:Int)⟩,⟨some 29,none,175,pB false⟩,⟨some 30,none,176,pB false⟩,⟨some 31,none,177,pB false⟩,⟨some 32,none,178,pI (p:Int)⟩,⟨some 33,none,179,pI (p:Int)⟩,⟨some 34,none,180,pB false⟩,⟨some 35,none,181,pB false⟩,⟨some 36,none,182,pB false⟩,⟨some 37,none,183,pI (z:Int)⟩,⟨some 38,none,184,pI (z:Int)⟩,⟨some 39,none,185,pB false⟩,⟨some 40,none,186,pB false⟩,⟨some 41,none,187,pB false⟩,⟨some 42,none,188,Qk (Za X)⟩,⟨some 43,none,189,pB (decide (Za X=0))⟩,⟨some 44,none,190,pI (z:Int)⟩,⟨some 45,none,191,pB (decide ((z:Int)>(0:Int)))⟩,⟨some 46,none,192,pB false⟩,⟨some 47,none,193,pB false⟩] (.k .z) (.k8 (.kkkk (.kkk .z))) rfl [0,1,3,7,15,31,63,127,255,511,1023,2047,4095,8191,16383,32767,65535,131071,262143,524287,1048575,2097151,4194303,8388607,16777215,33554431,67108863,134217727,268435455,536870911,1073741823,2147483647,4294967295,8589934591,17179869183,34359738367,68719476735,137438953471,274877906943,549755813887,1099511627775,2199023255551,4398046511103,8796093022207,17592186044415,35184372088831,70368744177663,140737488355327] (by kernel_rfl) ?_ (.k .z) (.k8 (.kddd (.d8 (.d8 (.d8 (.d8 (.d8 (.d8 (.ddk .z))))))))) fun a w hI=>?_
     ·exact⟨Qa (.tmp 9 rfl rfl) (.here 15 rfl),Qa (.tmp 13 rfl rfl) (.here 16 rfl),Qa (.tmp 14 rfl rfl) (.here 17 rfl),op_max3z (.tmp 15 rfl rfl) (.tmp 16 rfl rfl) (.tmp 17 rfl rfl) (.here 18 rfl),Qo (v:=.bool (false)) (.tmp 18 rfl rfl) (.const _) (fun _=>rfl) (.here 19 rfl),Qa (.tmp 19 rfl rfl) (.here 20 rfl),Q9 20 rfl rfl (Qa (.tmp 6 rfl rfl) (.here 21 rfl)),Q9 20 rfl rfl (Qo (v:=.bool (decide ((p:Int)<(0:Int)))) (.tmp 21 rfl rfl) (.const _) (fun _=>rfl) (.at_ 22 _ _ rfl (Zy ((decide_eq_false (by omega)))))),Yf (b:=false) (.tmp 20 rfl rfl) (fun h=>by cases h) (fun _=>(.tmp 22 rfl rfl)) (.here 23 rfl),Qa (.tmp 23 rfl rfl) (.here 24 rfl),Q9 24 rfl rfl (Qa (.tmp 7 rfl rfl) (.here 25 rfl)),Q9 24 rfl rfl (Qo (v:=.bool (decide ((q:Int)<(0:Int)))) (.tmp 25 rfl rfl) (.const _) (fun _=>rfl) (.at_ 26 _ _ rfl (Zy ((decide_eq_false (by omega)))))),Yf (b:=false) (.tmp 24 rfl rfl) (fun h=>by cases h) (fun _=>(.tmp 26 rfl rfl)) (.here 27 rfl),Qa (.tmp 27 rfl rfl) (.here 28 rfl),Q9 28 rfl rfl (Qa (.tmp 8 rfl rfl) (.here 29 rfl)),Q9 28 rfl rfl (Qo (v:=.bool (decide ((z:Int)<(0:Int)))) (.tmp 29 rfl rfl) (.const _) (fun _=>rfl) (.at_ 30 _ _ rfl (Zy ((decide_eq_false (by omega)))))),Yf (b:=false) (.tmp 28 rfl rfl) (fun h=>by cases h) (fun _=>(.tmp 30 rfl rfl)) (.here 31 rfl),Qa (.tmp 31 rfl rfl) (.here 32 rfl),Q9 32 rfl rfl (Qa (.tmp 6 rfl rfl) (.here 33 rfl)),Q9 32 rfl rfl (Qa (.tmp 7 rfl rfl) (.here 34 rfl)),Q9 32 rfl rfl (Qo (v:=.int .i64 (IntKind.i64.wrap ((p:Int)+(q:Int)))) (.tmp 33 rfl rfl) (.tmp 34 rfl rfl) (fun _=>rfl) (.at_ 35 _ _ rfl (Xe (by omega)))),Q9 32 rfl rfl (Qa (.tmp 8 rfl rfl) (.here 36 rfl)),Q9 32 rfl rfl (Qo (v:=.int .i64 (IntKind.i64.wrap (((p:Int)+(q:Int))+(z:Int)))) (.tmp 35 rfl rfl) (.tmp 36 rfl rfl) (fun _=>rfl) (.at_ 37 _ _ rfl (Xe (by omega)))),Q9 32 rfl rfl (Qa (.tmp 3 rfl rfl) (.here 38 rfl)),Q9 32 rfl rfl (Qo (v:=.bool (((((p:Int)+(q:Int))+(z:Int)) != (n:Int)))) (.tmp 37 rfl rfl) (.tmp 38 rfl rfl) (fun _=>rfl) (.at_ 39 _ _ rfl (Zy ((bne_eq_false_iff_eq.2 (by omega)))))),Yf (b:=false) (.tmp 32 rfl rfl) (fun h=>by cases h) (fun _=>(.tmp 39 rfl rfl)) (.here 40 rfl),Qa (.tmp 40 rfl rfl) (.here 41 rfl),Q9 41 rfl rfl (Qa (.tmp 10 rfl rfl) (.here 42 rfl)),Q9 41 rfl rfl (Qa (.tmp 7 rfl rfl) (.here 43 rfl)),Q9 41 rfl rfl (Qo (v:=.bool (((q:Int) != (q:Int)))) (.tmp 42 rfl rfl) (.tmp 43 rfl rfl) (fun _=>rfl) (.at_ 44 _ _ rfl (Zy (bne_self_eq_false _)))),Yf (b:=false) (.tmp 41 rfl rfl) (fun h=>by cases h) (fun _=>(.tmp 44 rfl rfl)) (.here 45 rfl),Qa (.tmp 45 rfl rfl) (.here 46 rfl),Q9 46 rfl rfl (Qa (.tmp 11 rfl rfl) (.here 47 rfl)),Q9 46 rfl rfl (Qa (.tmp 6 rfl rfl) (.here 48 rfl)),Q9 46 rfl rfl (Qo (v:=.bool (((p:Int) != (p:Int)))) (.tmp 47 rfl rfl) (.tmp 48 rfl rfl) (fun _=>rfl) (.at_ 49 _ _ rfl (Zy (bne_self_eq_false _)))),Yf (b:=false) (.tmp 46 rfl rfl) (fun h=>by cases h) (fun _=>(.tmp 49 rfl rfl)) (.here 50 rfl),Qa (.tmp 50 rfl rfl) (.here 51 rfl),Q9 51 rfl rfl (Qa (.tmp 12 rfl rfl) (.here 52 rfl)),Q9 51 rfl rfl (Qa (.tmp 8 rfl rfl) (.here 53 rfl)),Q9 51 rfl rfl (Qo (v:=.bool (((z:Int) != (z:Int)))) (.tmp 52 rfl rfl) (.tmp 53 rfl rfl) (fun _=>rfl) (.at_ 54 _ _ rfl (Zy (bne_self_eq_false _)))),Yf (b:=false) (.tmp 51 rfl rfl) (fun h=>by cases h) (fun _=>(.tmp 54 rfl rfl)) (.here 55 rfl),Qa (.tmp 55 rfl rfl) (.here 56 rfl),Q9 56 rfl rfl (Yg 0 rfl rfl rfl rfl (by kernel_rfl) Qr rfl (.here 57 rfl)),Q9 56 rfl rfl (Y2 (fun _ _=>by kernel_rfl) (Xt _) (.tmp 57 rfl rfl) (.here 58 rfl) (Uo (Za X))),Q9 56 rfl rfl (Qa (.tmp 8 rfl rfl) (.here 59 rfl)),Q9 56 rfl rfl (Qo (v:=.bool (decide ((z:Int)>(0:Int)))) (.tmp 59 rfl rfl) (.const _) (fun _=>rfl) (.here 60 rfl)),Q9 56 rfl rfl (Qcn (v:=.bool ((decide (Za X=0)) != (decide ((z:Int)>(0:Int))))) (.tmp 58 rfl rfl) (.tmp 60 rfl rfl) (fun _=>by kernel_rfl) (.at_ 61 _ _ rfl (Zy (h.tz)))),Yf (b:=false) (.tmp 56 rfl rfl) (fun h=>by cases h) (fun _=>(.tmp 61 rfl rfl)) (.here 62 rfl),trivial⟩
     refine Zt hI 9 rfl ?_
     refine wp_skip ?_
     refine Qi ?_
     refine wp_seq ?_
     refine Qh hI [] [] [⟨some 0,none,194,pI (z:Int)⟩,⟨some 1,none,195,pB ((z:Int)==(0:Int))⟩,⟨some 2,none,196,pB ((z:Int)==(0:Int))⟩,⟨some 3,none,197,Yp (((z:Int)==(0:Int))=true) (Qk (Za X))⟩,⟨some 4,none,198,Yp (((z:Int)==(0:Int))=true) (pI (Yj (Za X)))⟩,⟨some 5,none,199,Yp (((z:Int)==(0:Int))=true) (pB (decide ((Yj (Za X))>(0:Int))))⟩,⟨some 6,none,200,Yp (((z:Int)==(0:Int))=true) (pI (q:Int))⟩,⟨some 7,none,201,Yp (((z:Int)==(0:Int))=true) (pI (((q:Int)).tmod 2))⟩,⟨some 8,none,202,Yp (((z:Int)==(0:Int))=true) (pB ((((q:Int)).tmod 2)==(0:Int)))⟩,⟨some 9,none,203,Yp (((z:Int)==(0:Int))=true) (pB ((decide ((Yj (Za X))>(0:Int))) != ((((q:Int)).tmod 2)==(0:Int))))⟩,⟨some 10,none,204,pB false⟩] (.k .z) (.k8 (.kk .z)) rfl [0,1,3,7,15,31,63,127,255,511,1023] (by kernel_rfl) ?_ (.k .z) (.k8 (.kddd (.d8 (.k .z)))) fun a w hI=>?_
     ·exact⟨Qa (.tmp 8 rfl rfl) (.here 10 rfl),Qo (v:=.bool (((z:Int)==(0:Int)))) (.tmp 10 rfl rfl) (.const _) (fun _=>rfl) (.here 11 rfl),Qa (.tmp 11 rfl rfl) (.here 12 rfl),Yo 12 rfl rfl (fun hc=>Yg 0 rfl rfl rfl rfl (by kernel_rfl) Qr rfl (.sel hc 13 rfl)) (by kernel_rfl) (fun _=>.none (by kernel_rfl)) (fun hc=>.sel_no hc 13 rfl),Yo 12 rfl rfl (fun hc=>Y2 (fun _ _=>by kernel_rfl) (Xt _) (.sel (.tmp 13 rfl rfl) hc) (.sel hc 14 rfl) (c_sign _)) (by kernel_rfl) (fun _=>.none (by kernel_rfl)) (fun hc=>.sel_no hc 14 rfl),Yo 12 rfl rfl (fun hc=>Qo (v:=.bool (decide ((Yj (Za X))>(0:Int)))) (.sel (.tmp 14 rfl rfl) hc) (.const _) (fun _=>rfl) (.sel hc 15 rfl)) (by kernel_rfl) (fun _=>.none (by kernel_rfl)) (fun hc=>.sel_no hc 15 rfl),Yo 12 rfl rfl (fun hc=>Qa (.tmp 7 rfl rfl) (.sel hc 16 rfl)) (by kernel_rfl) (fun _=>.none (by kernel_rfl)) (fun hc=>.sel_no hc 16 rfl),Yo 12 rfl rfl (fun hc=>Qo (.sel (.tmp 16 rfl rfl) hc) (.const _) (bin_rem (by decide)) (.sel hc 17 rfl)) (by kernel_rfl) (fun _=>.none (by kernel_rfl)) (fun hc=>.sel_no hc 17 rfl),Yo 12 rfl rfl (fun hc=>Qo (v:=.bool (((((q:Int)).tmod 2)==(0:Int)))) (.sel (.tmp 17 rfl rfl) hc) (.const _) (fun _=>rfl) (.sel hc 18 rfl)) (by kernel_rfl) (fun _=>.none (by kernel_rfl)) (fun hc=>.sel_no hc 18 rfl),Yo 12 rfl rfl (fun hc=>Qcn (v:=.bool ((decide ((Yj (Za X))>(0:Int))) != ((((q:Int)).tmod 2)==(0:Int)))) (.sel (.tmp 15 rfl rfl) hc) (.sel (.tmp 18 rfl rfl) hc) (fun _=>by kernel_rfl) (.sel hc 19 rfl)) (by kernel_rfl) (fun _=>.none (by kernel_rfl)) (fun hc=>.sel_no hc 19 rfl),Yf (q:=pB (((z:Int)==(0:Int))&&((decide ((Yj (Za X))>(0:Int))) != ((((q:Int)).tmod 2)==(0:Int))))) (.tmp 12 rfl rfl) (fun h=>.imp (.sel (.tmp 19 rfl rfl) (h)) fun _ _ e=>by rw[h]; exact e) (fun h=>.imp (.const _) fun _ _ e=>by rw[h]; exact e) (.at_ 20 _ _ rfl (Zy (h.ts))),trivial⟩
     refine Zt hI 9 rfl ?_
     refine wp_skip ?_
     refine Qi ?_
     refine Qh hI [⟨27,27,some 6,none,.ptr,32,3,true,pv (Qk 0),[(7,pv (Qk (Yi X V n n)))]⟩] [] [⟨some 0,none,206,Qg 1 false n (fun i=>Qd ((X).getD i []))⟩,⟨some 1,none,207,Qg 3 true n (fun i=>Qk (V.getD i 0))⟩,⟨some 2,none,208,Zd (Qk (Yi X V n n)) (pI 0)⟩,⟨some 3,none,205,Zd (Qk (Yi X V n n)) (pI 0)⟩,⟨some 4,none,209,Qk (Yi X V n n)⟩,⟨some 5,none,210,pI 0⟩,⟨some 8,none,28,pI 0⟩] (.k .z) (.k8 (.kk .z)) rfl [0,1,3,7,15,31,63,127,255] (by kernel_rfl) ?_ (.k (.s .o .z)) (.dkkk (.kkkk (.kddd (.dddd (.k .z))))) fun a w hI=>?_
     ·exact⟨Qa (.tmp 1 rfl rfl) (.here 10 rfl),Qa (.tmp 0 rfl rfl) (.here 11 rfl),W9 (fun _ _=>by kernel_rfl) (.tmp 10 rfl rfl) (.tmp 11 rfl rfl) (.here 12 rfl) (sy_quad' h),Qa (.tmp 12 rfl rfl) (.here 13 rfl),Xo (.tmp 13 rfl rfl) ex2_0 (.here 14 rfl),Xo (.tmp 13 rfl rfl) ex2_1 (.here 15 rfl),J4 1 rfl rfl (by kernel_rfl) (by kernel_rfl) rfl rfl rfl Jj rfl rfl (by simp[Yr]) rfl (fun w=>Yl w),Zo 1 rfl rfl rfl rfl 0 rfl (by kernel_rfl) (by kernel_rfl) Qr (.tmp 14 rfl rfl) (Xb _),Qc (.tmp 15 rfl rfl) (.here 16 rfl),trivial⟩
     refine wp_seq ?_
     refine Qh hI [] [] [⟨some 0,none,211,pI 0⟩,⟨some 1,none,212,pB false⟩,⟨some 2,none,213,pB false⟩,⟨some 3,none,214,pI (p:Int)⟩,⟨some 4,none,215,pI (n:Int)⟩,⟨some 5,none,216,pB ((p:Int)==(n:Int))⟩,⟨some 6,none,217,pB ((p:Int)==(n:Int))⟩,⟨some 7,none,218,Yp (((p:Int)==(n:Int))=true) (pB (Xm Lx y.k))⟩,⟨some 8,none,219,Yp (((p:Int)==(n:Int))=true) (pB (!(Xm Lx y.k)))⟩,⟨some 9,none,220,pB (((p:Int)==(n:Int))&&(!(Xm Lx y.k)))⟩,⟨some 10,none,221,pB (((p:Int)==(n:Int))&&(!(Xm Lx y.k)))⟩,⟨some 11,none,222,Yp ((((p:Int)==(n:Int))&&(!(Xm Lx y.k)))=true) (Qk (Yi X V n n))⟩,⟨some 12,none,223,Yp ((((p:Int)==(n:Int))&&(!(Xm Lx y.k)))=true) (pI (Yj (Yi X V n n)))⟩,⟨some 13,none,224,Yp ((((p:Int)==(n:Int))&&(!(Xm Lx y.k)))=true) (pB (decide ((Yj (Yi X V n n))≤(0:Int))))⟩,⟨some 14,none,225,pB ((((p:Int)==(n:Int))&&(!(Xm Lx y.k)))&&(decide ((Yj (Yi X V n n))≤(0:Int))))⟩,⟨some 15,none,226,pB ((((p:Int)==(n:Int))&&(!(Xm Lx y.k)))&&(decide ((Yj (Yi X V n n))≤(0:Int))))⟩,⟨some 16,none,227,pB ((((p:Int)==(n:Int))&&(!(Xm Lx y.k)))&&(decide ((Yj (Yi X V n n))≤(0:Int))))⟩,⟨some 17,none,228,Yp (((((p:Int)==(n:Int))&&(!(Xm Lx y.k)))&&(decide ((Yj (Yi X V n n))≤(0:Int))))=false) (pI (q:Int))⟩,⟨some 18,none,229,Yp (((((p:Int)==(n:Int))&&(!(Xm Lx y.k)))&&(decide ((Yj (Yi X V n n))≤(0:Int))))=false) (pI (n:Int))⟩,⟨some 19,none,230,Yp (((((p:Int)==(n:Int))&&(!(Xm Lx y.k)))&&(decide ((Yj (Yi X V n n))≤(0:Int))))=false) (pB ((q:Int)==(n:Int)))⟩,⟨some 20,none,231,Yp (((((p:Int)==(n:Int))&&(!(Xm Lx y.k)))&&(decide ((Yj (Yi X V n n))≤(0:Int))))=false) (pB ((q:Int)==(n:Int)))⟩,⟨some 21,none,232,Yp ((((((p:Int)==(n:Int))&&(!(Xm Lx y.k)))&&(decide ((Yj (Yi X V n n))≤(0:Int))))=false)∧((q:Int)==(n:Int))=true) (pB (Xm Lx y.k))⟩,⟨some 22,none,233,Yp ((((((p:Int)==(n:Int))&&(!(Xm Lx y.k)))&&(decide ((Yj (Yi X V n n))≤(0:Int))))=false)∧((q:Int)==(n:Int))=true) (pB (!(Xm Lx y.k)))⟩,⟨some 23,none,234,Yp (((((p:Int)==(n:Int))&&(!(Xm Lx y.k)))&&(decide ((Yj (Yi X V n n))≤(0:Int))))=false) (pB (((q:Int)==(n:Int))&&(!(Xm Lx y.k))))⟩,⟨some 24,none,235,Yp (((((p:Int)==(n:Int))&&(!(Xm Lx y.k)))&&(decide ((Yj (Yi X V n n))≤(0:Int))))=false) (pB (((q:Int)==(n:Int))&&(!(Xm Lx y.k))))⟩,⟨some 25,none,236,Yp ((((((p:Int)==(n:Int))&&(!(Xm Lx y.k)))&&(decide ((Yj (Yi X V n n))≤(0:Int))))=false)∧(((q:Int)==(n:Int))&&(!(Xm Lx y.k)))=true) (Qk (Yi X V n n))⟩,⟨some 26,none,237,Yp ((((((p:Int)==(n:Int))&&(!(Xm Lx y.k)))&&(decide ((Yj (Yi X V n n))≤(0:Int))))=false)∧(((q:Int)==(n:Int))&&(!(Xm Lx y.k)))=true) (pI (Yj (Yi X V n n)))⟩,⟨some 27,none,238,Yp ((((((p:Int)==(n:Int))&&(!(Xm Lx y.k)))&&(decide ((Yj (Yi X V n n))≤(0:Int))))=false)∧(((q:Int)==(n:Int))&&(!(Xm Lx y.k)))=true) (pB (decide ((Yj (Yi X V n n))≥(0:Int))))⟩,⟨some 28,none,239,Yp (((((p:Int)==(n:Int))&&(!(Xm Lx y.k)))&&(decide ((Yj (Yi X V n n))≤(0:Int))))=false) (pB ((((q:Int)==(n:Int))&&(!(Xm Lx y.k)))&&(decide ((Yj (Yi X V n n))≥(0:Int)))))⟩,⟨some 29,none,240,pB false⟩] (.k (.k .z)) (.k8 (.k .z)) rfl [0,1,3,7,15,31,63,127,255,511,1023,2047,4095,8191,16383,32767,65535,131071,262143,524287,1048575,2097151,4194303,8388607,16777215,33554431,67108863,134217727,268435455,536870911] (by kernel_rfl) ?_ (.k (.k .z)) (.kkdk (.dkkk (.d8 (.d8 (.d8 (.dddd (.ddk .z))))))) fun a w hI=>?_
     ·exact⟨Qa (.tmp 8 rfl rfl) (.here 9 rfl),Qo (v:=.bool (false)) (.tmp 9 rfl rfl) (.const _) (fun _=>rfl) (.here 10 rfl),Qa (.tmp 10 rfl rfl) (.here 11 rfl),Q9 11 rfl rfl (Qa (.tmp 5 rfl rfl) (.here 12 rfl)),Q9 11 rfl rfl (Qa (.tmp 2 rfl rfl) (.here 13 rfl)),Q9 11 rfl rfl (Qo (v:=.bool (((p:Int)==(n:Int)))) (.tmp 12 rfl rfl) (.tmp 13 rfl rfl) (fun _=>rfl) (.here 14 rfl)),Q9 11 rfl rfl (Qa (.tmp 14 rfl rfl) (.here 15 rfl)),Yo 15 rfl rfl (fun hc=>Qa (.tmp 4 rfl rfl) (.sel hc 16 rfl)) (by kernel_rfl) (fun _=>.none (by kernel_rfl)) (fun hc=>.sel_no hc 16 rfl),Yo 15 rfl rfl (fun hc=>Vw (.sel (.tmp 16 rfl rfl) hc) (.sel hc 17 rfl)) (by kernel_rfl) (fun _=>.none (by kernel_rfl)) (fun hc=>.sel_no hc 17 rfl),Q9 11 rfl rfl (Yf (.tmp 15 rfl rfl) (fun h=>.imp (.sel (.tmp 17 rfl rfl) (h)) fun _ _ e=>by rw[h]; exact e) (fun h=>.imp (.const _) fun _ _ e=>by rw[h]; exact e) (.here 18 rfl)),Q9 11 rfl rfl (Qa (.tmp 18 rfl rfl) (.here 19 rfl)),Yo 19 rfl rfl (fun hc=>Yg 1 rfl rfl rfl rfl (by kernel_rfl) Qr rfl (.sel hc 20 rfl)) (by kernel_rfl) (fun _=>.none (by kernel_rfl)) (fun hc=>.sel_no hc 20 rfl),Yo 19 rfl rfl (fun hc=>Y2 (fun _ _=>by kernel_rfl) (Xt _) (.sel (.tmp 20 rfl rfl) hc) (.sel hc 21 rfl) (c_sign _)) (by kernel_rfl) (fun _=>.none (by kernel_rfl)) (fun hc=>.sel_no hc 21 rfl),Yo 19 rfl rfl (fun hc=>Qo (v:=.bool (decide ((Yj (Yi X V n n))≤(0:Int)))) (.sel (.tmp 21 rfl rfl) hc) (.const _) (fun _=>rfl) (.sel hc 22 rfl)) (by kernel_rfl) (fun _=>.none (by kernel_rfl)) (fun hc=>.sel_no hc 22 rfl),Q9 11 rfl rfl (Yf (.tmp 19 rfl rfl) (fun h=>.imp (.sel (.tmp 22 rfl rfl) (h)) fun _ _ e=>by rw[h]; exact e) (fun h=>.imp (.const _) fun _ _ e=>by rw[h]; exact e) (.here 23 rfl)),Yf (b:=false) (.tmp 11 rfl rfl) (fun h=>by cases h) (fun _=>(.tmp 23 rfl rfl)) (.here 24 rfl),Qa (.tmp 24 rfl rfl) (.here 25 rfl),Yo 25 rfl rfl (fun hc=>Qa (.tmp 6 rfl rfl) (.sel hc 26 rfl)) (by kernel_rfl) (fun _=>.none (by kernel_rfl)) (fun hc=>.sel_no hc 26 rfl),Yo 25 rfl rfl (fun hc=>Qa (.tmp 2 rfl rfl) (.sel hc 27 rfl)) (by kernel_rfl) (fun _=>.none (by kernel_rfl)) (fun hc=>.sel_no hc 27 rfl),Yo 25 rfl rfl (fun hc=>Qo (v:=.bool (((q:Int)==(n:Int)))) (.sel (.tmp 26 rfl rfl) hc) (.sel (.tmp 27 rfl rfl) hc) (fun _=>rfl) (.sel hc 28 rfl)) (by kernel_rfl) (fun _=>.none (by kernel_rfl)) (fun hc=>.sel_no hc 28 rfl),Yo 25 rfl rfl (fun hc=>Qa (.sel (.tmp 28 rfl rfl) hc) (.sel hc 29 rfl)) (by kernel_rfl) (fun _=>.none (by kernel_rfl)) (fun hc=>.sel_no hc 29 rfl),op_if2 29 rfl rfl (fun hc=>Qa (.tmp 4 rfl rfl) (.sel hc 30 rfl)) (by kernel_rfl) (fun _=>.none (by kernel_rfl)) (fun hc=>.sel_no hc 30 rfl),op_if2 29 rfl rfl (fun hc=>Vw (.sel (.tmp 30 rfl rfl) hc) (.sel hc 31 rfl)) (by kernel_rfl) (fun _=>.none (by kernel_rfl)) (fun hc=>.sel_no hc 31 rfl),Yo 25 rfl rfl (fun hc=>Yf (.sel (.tmp 29 rfl rfl) hc) (fun h=>.imp (.sel (.tmp 31 rfl rfl) (⟨hc,h⟩)) fun _ _ e=>by rw[h]; exact e) (fun h=>.imp (.const _) fun _ _ e=>by rw[h]; exact e) (.sel hc 32 rfl)) (by kernel_rfl) (fun _=>.none (by kernel_rfl)) (fun hc=>.sel_no hc 32 rfl),Yo 25 rfl rfl (fun hc=>Qa (.sel (.tmp 32 rfl rfl) hc) (.sel hc 33 rfl)) (by kernel_rfl) (fun _=>.none (by kernel_rfl)) (fun hc=>.sel_no hc 33 rfl),op_if2 33 rfl rfl (fun hc=>Yg 1 rfl rfl rfl rfl (by kernel_rfl) Qr rfl (.sel hc 34 rfl)) (by kernel_rfl) (fun _=>.none (by kernel_rfl)) (fun hc=>.sel_no hc 34 rfl),op_if2 33 rfl rfl (fun hc=>Y2 (fun _ _=>by kernel_rfl) (Xt _) (.sel (.tmp 34 rfl rfl) hc) (.sel hc 35 rfl) (c_sign _)) (by kernel_rfl) (fun _=>.none (by kernel_rfl)) (fun hc=>.sel_no hc 35 rfl),op_if2 33 rfl rfl (fun hc=>Qo (v:=.bool (decide ((Yj (Yi X V n n))≥(0:Int)))) (.sel (.tmp 35 rfl rfl) hc) (.const _) (fun _=>rfl) (.sel hc 36 rfl)) (by kernel_rfl) (fun _=>.none (by kernel_rfl)) (fun hc=>.sel_no hc 36 rfl),Yo 25 rfl rfl (fun hc=>Yf (.sel (.tmp 33 rfl rfl) hc) (fun h=>.imp (.sel (.tmp 36 rfl rfl) (⟨hc,h⟩)) fun _ _ e=>by rw[h]; exact e) (fun h=>.imp (.const _) fun _ _ e=>by rw[h]; exact e) (.sel hc 37 rfl)) (by kernel_rfl) (fun _=>.none (by kernel_rfl)) (fun hc=>.sel_no hc 37 rfl),Yf (q:=pB (((((p:Int)==(n:Int))&&(!(Xm Lx y.k)))&&(decide ((Yj (Yi X V n n))≤(0:Int))))||((((q:Int)==(n:Int))&&(!(Xm Lx y.k)))&&(decide ((Yj (Yi X V n n))≥(0:Int)))))) (.tmp 25 rfl rfl) (fun h=>.imp (.const _) fun _ _ e=>by rw[h]; exact e) (fun h=>.imp (.sel (.tmp 37 rfl rfl) (h)) fun _ _ e=>by rw[h]; exact e) (.at_ 38 _ _ rfl (Zy ((by rw[show y.k=n by omega]; exact h.tq)))),trivial⟩
     refine Zt hI 6 rfl ?_
     refine wp_skip ?_
     refine Qi ?_
     refine Qh hI [] [] [⟨some 0,none,242,Qg 1 false n (fun i=>Qd ((C).getD i []))⟩,⟨some 1,none,243,Zd (Qg 1 false n (fun i=>Qd ((Qp C).getD i []))) (pI 0)⟩,⟨some 2,none,241,Zd (Qg 1 false n (fun i=>Qd ((Qp C).getD i []))) (pI 0)⟩,⟨some 3,none,244,Qg 1 false n (fun i=>Qd ((Qp C).getD i []))⟩,⟨some 4,none,245,pI 0⟩,⟨some 5,none,29,Qg 1 false n (fun i=>Qd ((Qp C).getD i []))⟩,⟨some 6,none,20,pI 0⟩] (.k (.k .z)) (.kkkk (.kkk .z)) rfl [0,1,3,7,15,31,63] (by kernel_rfl) ?_ (.k (.k .z)) (.kkkk (.kkdd (.dddd (.kk .z)))) fun a w hI=>?_
     ·exact⟨Qa (.tmp 2 rfl rfl) (.here 7 rfl),Zn (fun _ _=>by kernel_rfl) (.tmp 7 rfl rfl) (.here 8 rfl) (sy_turn h),Qa (.tmp 8 rfl rfl) (.here 9 rfl),Xo (.tmp 9 rfl rfl) ex2_0 (.here 10 rfl),Xo (.tmp 9 rfl rfl) ex2_1 (.here 11 rfl),Qc (.tmp 10 rfl rfl) (.here 12 rfl),Qc (.tmp 11 rfl rfl) (.here 13 rfl),trivial⟩
     refine Qh hI [] [] [⟨some 0,none,247,Qg 1 false n (fun i=>Qd ((Qp C).getD i []))⟩,⟨some 1,none,248,Qg 1 false n (fun i=>Qd ((X).getD i []))⟩,⟨some 2,none,249,Zd (Qg 1 false n (fun i=>Qd ((Xq (Qp C) (Qp X)).getD i []))) (pI 0)⟩,⟨some 3,none,246,Zd (Qg 1 false n (fun i=>Qd ((Xq (Qp C) (Qp X)).getD i []))) (pI 0)⟩,⟨some 4,none,250,Qg 1 false n (fun i=>Qd ((Xq (Qp C) (Qp X)).getD i []))⟩,⟨some 5,none,251,pI 0⟩,⟨some 6,none,30,Qg 1 false n (fun i=>Qd ((Xq (Qp C) (Qp X)).getD i []))⟩,⟨some 7,none,24,pI 0⟩] (.k (.k .z)) (.k8 .z) rfl [0,1,3,7,15,31,63,127] (by kernel_rfl) ?_ (.k (.k .z)) (.dkkk (.kkdk (.dddd (.ddkk .z)))) fun a w hI=>?_
     ·exact⟨Qa (.tmp 6 rfl rfl) (.here 8 rfl),Qa (.tmp 0 rfl rfl) (.here 9 rfl),W9 (fun _ _=>by kernel_rfl) (.tmp 8 rfl rfl) (.tmp 9 rfl rfl) (.here 10 rfl) (sy_left h),Qa (.tmp 10 rfl rfl) (.here 11 rfl),Xo (.tmp 11 rfl rfl) ex2_0 (.here 12 rfl),Xo (.tmp 11 rfl rfl) ex2_1 (.here 13 rfl),Qc (.tmp 12 rfl rfl) (.here 14 rfl),Qc (.tmp 13 rfl rfl) (.here 15 rfl),trivial⟩
     refine Qh hI [⟨31,31,some 5,none,.ptr,32,3,true,pv (Qk 0),[(6,pv (Qk (Za C)))]⟩] [] [⟨some 0,none,253,Qg 1 false n (fun i=>Qd ((C).getD i []))⟩,⟨some 1,none,254,Zd (Qk (Za C)) (pI 0)⟩,⟨some 2,none,252,Zd (Qk (Za C)) (pI 0)⟩,⟨some 3,none,255,Qk (Za C)⟩,⟨some 4,none,256,pI 0⟩,⟨some 7,none,26,pI 0⟩] (.k (.k .z)) (.k8 .z) rfl [0,1,3,7,15,31,63,127] (by kernel_rfl) ?_ (.k (.k (.s .o .z))) (.k8 (.dddd (.dk .z))) fun a w hI=>?_
     ·exact⟨Qa (.tmp 1 rfl rfl) (.here 8 rfl),Zn (fun _ _=>by kernel_rfl) (.tmp 8 rfl rfl) (.here 9 rfl) (sy_detC h),Qa (.tmp 9 rfl rfl) (.here 10 rfl),Xo (.tmp 10 rfl rfl) ex2_0 (.here 11 rfl),Xo (.tmp 10 rfl rfl) ex2_1 (.here 12 rfl),J4 2 rfl rfl (by kernel_rfl) (by kernel_rfl) rfl rfl rfl Jj rfl rfl (by simp[Yr]) rfl (fun w=>Yl w),Zo 2 rfl rfl rfl rfl 0 rfl (by kernel_rfl) (by kernel_rfl) Qr (.tmp 11 rfl rfl) (Xb _),Qc (.tmp 12 rfl rfl) (.here 13 rfl),trivial⟩
     refine wp_seq ?_
     refine Qh hI [] [] [⟨some 0,none,257,pI 0⟩,⟨some 1,none,258,pI 0⟩,⟨some 2,none,259,pI 0⟩,⟨some 3,none,260,pI 0⟩,⟨some 4,none,261,pB false⟩] (.k (.k (.k .z))) (.k8 (.k .z)) rfl [0,1,3,7,15] (by kernel_rfl) ?_ (.k (.k (.k .z))) (.kkkk (.kdkd (.dddd (.dk .z)))) fun a w hI=>?_
     ·exact⟨Qa (.tmp 5 rfl rfl) (.here 9 rfl),Qa (.tmp 7 rfl rfl) (.here 10 rfl),Qa (.tmp 8 rfl rfl) (.here 11 rfl),op_max3z (.tmp 9 rfl rfl) (.tmp 10 rfl rfl) (.tmp 11 rfl rfl) (.here 12 rfl),Qo (v:=.bool (false)) (.tmp 12 rfl rfl) (.const _) (fun _=>rfl) (.here 13 rfl),trivial⟩
     refine Zt hI 6 rfl ?_
     refine wp_skip ?_
     refine Qi ?_
     refine Qh hI [] [] [⟨some 0,none,263,Qg 1 false n (fun i=>Qd ((Xq (Qp C) (Qp X)).getD i []))⟩,⟨some 1,none,264,Qg 1 false n (fun i=>Qd ((C).getD i []))⟩,⟨some 2,none,265,Zd (Qg 1 false n (fun i=>Qd ((Xq (Xq (Qp C) (Qp X)) (Qp C)).getD i []))) (pI 0)⟩,⟨some 3,none,262,Zd (Qg 1 false n (fun i=>Qd ((Xq (Xq (Qp C) (Qp X)) (Qp C)).getD i []))) (pI 0)⟩,⟨some 4,none,266,Qg 1 false n (fun i=>Qd ((Xq (Xq (Qp C) (Qp X)) (Qp C)).getD i []))⟩,⟨some 5,none,267,pI 0⟩,⟨some 6,none,32,Qg 1 false n (fun i=>Qd ((Xq (Xq (Qp C) (Qp X)) (Qp C)).getD i []))⟩,⟨some 7,none,28,pI 0⟩] (.k (.k (.k .z))) (.kkkk (.kkk .z)) rfl [0,1,3,7,15,31,63,127] (by kernel_rfl) ?_ (.k (.k (.k .z))) (.kdkk (.kddd (.dddd (.dkk .z)))) fun a w hI=>?_
     ·exact⟨Qa (.tmp 5 rfl rfl) (.here 7 rfl),Qa (.tmp 1 rfl rfl) (.here 8 rfl),W9 (fun _ _=>by kernel_rfl) (.tmp 7 rfl rfl) (.tmp 8 rfl rfl) (.here 9 rfl) (sy_both h),Qa (.tmp 9 rfl rfl) (.here 10 rfl),Xo (.tmp 10 rfl rfl) ex2_0 (.here 11 rfl),Xo (.tmp 10 rfl rfl) ex2_1 (.here 12 rfl),Qc (.tmp 11 rfl rfl) (.here 13 rfl),Qc (.tmp 12 rfl rfl) (.here 14 rfl),trivial⟩
     refine wp_seq ?_
     refine Qh hI [] [] [⟨some 0,none,268,pI 0⟩,⟨some 1,none,269,pB false⟩,⟨some 2,none,270,pB false⟩,⟨some 3,none,271,Qk (Za C)⟩,⟨some 4,none,272,pB (decide (Za C=0))⟩,⟨some 5,none,273,pB (decide (Za C=0))⟩] (.k (.k (.k .z))) (.kkkk (.kk .z)) rfl [0,1,3,7,15,31] (by kernel_rfl) ?_ (.k (.k (.k .z))) (.kkkk (.kkdd (.dddk .z))) fun a w hI=>?_
     ·exact⟨Qa (.tmp 5 rfl rfl) (.here 6 rfl),Qo (v:=.bool (false)) (.tmp 6 rfl rfl) (.const _) (fun _=>rfl) (.here 7 rfl),Qa (.tmp 7 rfl rfl) (.here 8 rfl),Q9 8 rfl rfl (Yg 2 rfl rfl rfl rfl (by kernel_rfl) Qr rfl (.here 9 rfl)),Q9 8 rfl rfl (Y2 (fun _ _=>by kernel_rfl) (Xt _) (.tmp 9 rfl rfl) (.here 10 rfl) (Uo (Za C))),Yf (b:=false) (.tmp 8 rfl rfl) (fun h=>by cases h) (fun _=>(.tmp 10 rfl rfl)) (.here 11 rfl),trivial⟩
     refine Xd hI 6 rfl (fun ht=>?_) (fun ht=>?_)
     ·have t9:=of_decide_eq_true ht
      refine Qh hI [] [] [⟨some 0,none,274,pI 0⟩,⟨some 1,none,275,pB true⟩,⟨some 2,none,276,pB true⟩,⟨some 3,none,277,pB true⟩,⟨some 4,none,278,pB true⟩,⟨some 5,none,8,pB true⟩] (.k (.k (.k .z))) (.t 5 (.kkkk (.kk .z))) rfl [0,1,3,7,15,31] (by kernel_rfl) ?_ (.k (.k (.k .z))) (.dkkk (.kddd (.dddd (.k .z)))) fun a w hI=>?_
      ·exact⟨Qa (.tmp 5 rfl rfl) (.here 7 rfl),Qo (v:=.bool (true)) (.tmp 7 rfl rfl) (.const _) (fun _=>rfl) (.here 8 rfl),Qa (.tmp 8 rfl rfl) (.here 9 rfl),Q9 9 rfl rfl (op_call0 (fun _ _=>by kernel_rfl) (Xt _) (.here 10 rfl) (c_awake)),Yf (b:=true) (.tmp 9 rfl rfl) (fun _=>(.tmp 10 rfl rfl)) (fun h=>by cases h) (.here 11 rfl),Qc (.tmp 11 rfl rfl) (.here 12 rfl),trivial⟩
      refine wp_ret ?_
      refine X7 ?_
      exact W5 hI rfl (.tmp 4 rfl)
     ·have t10:=of_decide_eq_false ht
      refine wp_skip ?_
      refine Qi ?_
      have hdet:Za C≠0:=t10
      refine Qh hI [] [] [⟨some 0,none,280,Qg 1 false n (fun i=>Qd ((Xq (Xq (Qp C) (Qp X)) (Qp C)).getD i []))⟩,⟨some 1,none,281,Wi (pI (p:Int)) (pI (q:Int)) (pI (z:Int)) (pI 0)⟩,⟨some 2,none,279,Wi (pI (p:Int)) (pI (q:Int)) (pI (z:Int)) (pI 0)⟩,⟨some 3,none,282,pI (p:Int)⟩,⟨some 4,none,283,pI (q:Int)⟩,⟨some 5,none,284,pI (z:Int)⟩,⟨some 6,none,285,pI 0⟩,⟨some 7,none,33,pI (p:Int)⟩,⟨some 8,none,34,pI (q:Int)⟩,⟨some 9,none,35,pI (z:Int)⟩,⟨some 10,none,20,pI 0⟩] (.k (.k (.k .z))) (.kkkk (.kkk .z)) rfl [0,1,3,7,15,31,63,127,255,511,1023] (by kernel_rfl) ?_ (.k (.k (.k .z))) (.kkkk (.d8 (.ddkk (.kk .z)))) fun a w hI=>?_
      ·exact⟨Qa (.tmp 4 rfl rfl) (.here 7 rfl),Zn (fun _ _=>by kernel_rfl) (.tmp 7 rfl rfl) (.here 8 rfl) (sy_inB h hdet),Qa (.tmp 8 rfl rfl) (.here 9 rfl),Xo (.tmp 9 rfl rfl) ex4_0 (.here 10 rfl),Xo (.tmp 9 rfl rfl) ex4_1 (.here 11 rfl),Xo (.tmp 9 rfl rfl) ex4_2 (.here 12 rfl),Xo (.tmp 9 rfl rfl) ex4_3 (.here 13 rfl),Qc (.tmp 10 rfl rfl) (.here 14 rfl),Qc (.tmp 11 rfl rfl) (.here 15 rfl),Qc (.tmp 12 rfl rfl) (.here 16 rfl),Qc (.tmp 13 rfl rfl) (.here 17 rfl),trivial⟩
      refine Qh hI [] [] [⟨some 0,none,286,pI 0⟩,⟨some 1,none,287,pB true⟩,⟨some 2,none,288,pB true⟩,⟨some 3,none,289,pI (p:Int)⟩,⟨some 4,none,290,pI (p:Int)⟩,⟨some 5,none,291,pB true⟩,⟨some 6,none,292,pB true⟩,⟨some 7,none,293,pB true⟩,⟨some 8,none,294,pI (q:Int)⟩,⟨some 9,none,295,pI (q:Int)⟩,⟨some 10,none,296,pB true⟩,⟨some 11,none,297,pB true⟩,⟨some 12,none,298,pB true⟩,⟨some 13,none,299,pI (z:Int)⟩,⟨some 14,none,300,pI (z:Int)⟩,⟨some 15,none,301,pB true⟩,⟨some 16,none,302,pB true⟩,⟨some 17,none,303,pB true⟩,⟨some 18,none,304,pB true⟩,⟨some 19,none,305,pB true⟩,⟨some 20,none,8,pB true⟩] (.k (.k (.k .z))) (.t 20 (.kkkk (.kkk .z))) rfl [0,1,3,7,15,31,63,127,255,511,1023,2047,4095,8191,16383,32767,65535,131071,262143,524287,1048575] (by kernel_rfl) ?_ (.k (.k (.k .z))) (.d8 (.d8 (.d8 (.dddd (.k .z))))) fun a w hI=>?_
      ·exact⟨Qa (.tmp 7 rfl rfl) (.here 8 rfl),Qo (v:=.bool (true)) (.tmp 8 rfl rfl) (.const _) (fun _=>rfl) (.here 9 rfl),Qa (.tmp 9 rfl rfl) (.here 10 rfl),Q9 10 rfl rfl (Qa (.tmp 4 rfl rfl) (.here 11 rfl)),Q9 10 rfl rfl (Qa (.tmp 1 rfl rfl) (.here 12 rfl)),Q9 10 rfl rfl (Qo (v:=.bool (((p:Int)==(p:Int)))) (.tmp 11 rfl rfl) (.tmp 12 rfl rfl) (fun _=>rfl) (.at_ 13 _ _ rfl (Zy (beq_self_eq_true _)))),Yf (b:=true) (.tmp 10 rfl rfl) (fun _=>(.tmp 13 rfl rfl)) (fun h=>by cases h) (.here 14 rfl),Qa (.tmp 14 rfl rfl) (.here 15 rfl),Q9 15 rfl rfl (Qa (.tmp 5 rfl rfl) (.here 16 rfl)),Q9 15 rfl rfl (Qa (.tmp 2 rfl rfl) (.here 17 rfl)),Q9 15 rfl rfl (Qo (v:=.bool (((q:Int)==(q:Int)))) (.tmp 16 rfl rfl) (.tmp 17 rfl rfl) (fun _=>rfl) (.at_ 18 _ _ rfl (Zy (beq_self_eq_true _)))),Yf (b:=true) (.tmp 15 rfl rfl) (fun _=>(.tmp 18 rfl rfl)) (fun h=>by cases h) (.here 19 rfl),Qa (.tmp 19 rfl rfl) (.here 20 rfl),Q9 20 rfl rfl (Qa (.tmp 6 rfl rfl) (.here 21 rfl)),Q9 20 rfl rfl (Qa (.tmp 3 rfl rfl) (.here 22 rfl)),Q9 20 rfl rfl (Qo (v:=.bool (((z:Int)==(z:Int)))) (.tmp 21 rfl rfl) (.tmp 22 rfl rfl) (fun _=>rfl) (.at_ 23 _ _ rfl (Zy (beq_self_eq_true _)))),Yf (b:=true) (.tmp 20 rfl rfl) (fun _=>(.tmp 23 rfl rfl)) (fun h=>by cases h) (.here 24 rfl),Qa (.tmp 24 rfl rfl) (.here 25 rfl),Q9 25 rfl rfl (op_call0 (fun _ _=>by kernel_rfl) (Xt _) (.here 26 rfl) (c_awake)),Yf (b:=true) (.tmp 25 rfl rfl) (fun _=>(.tmp 26 rfl rfl)) (fun h=>by cases h) (.here 27 rfl),Qc (.tmp 27 rfl rfl) (.here 28 rfl),trivial⟩
      refine wp_ret ?_
      exact W5 hI rfl (.tmp 0 rfl)
theorem sylvester_law (W:World) {La Lb Lx:List Int} {nn:Int} {v0 v1 v2:Value} (h0:∀w',Ext (fun _ _=>False) W w'→(Qg 1 false La.length (fun i=>Qe (.int .i8 (La.getD i 0)))) w' v0) (h1:∀w',Ext (fun _ _=>False) W w'→(Qg 1 false Lb.length (fun i=>Qe (.int .i8 (Lb.getD i 0)))) w' v1) (h2:∀w',Ext (fun _ _=>False) W w'→(Qg 1 false Lx.length (fun i=>Qe (.int .i8 (Lx.getD i 0)))) w' v2) (ha8:∀i,-128≤La.getD i 0∧La.getD i 0≤127) (hb8:∀i,-128≤Lb.getD i 0∧Lb.getD i 0≤127) (hx8:∀i,-128≤Lx.getD i 0∧Lx.getD i 0≤127) (hnn:0≤nn∧nn≤255):
  Calls Try.prog 5 #[v0,v1,v2,.int .u8 nn] W fun e w'=>e=.returned (.bool true)∧Below W.heap.size W w':=by
 have k1:=Int.tmod_nonneg 5 hnn.1
 have k2:=Int.tmod_lt_of_pos nn (show(0:Int)<5 by omega)
 have hs:1+nn.tmod 5=(((1+nn.tmod 5).toNat:Nat):Int):=by omega
 have hn:1≤(1+nn.tmod 5).toNat∧(1+nn.tmod 5).toNat≤5:=by omega
 generalize (1+nn.tmod 5).toNat=n at hs hn
 have hO:SyOk n La Lb Lx (X4 n (Jt La n)) (X4 n (fun r c => -(Jt La n r c))) (Ky Lb n 2) (vecL Lx n) _ _ _:=⟨hn,rfl,rfl,rfl,rfl,hx8,rfl⟩
 exact law_true (sylvester_walk hnn hs ha8 hb8 hO _ W _ _ _ _ (Qc9 W) h0 h1 h2 (fun _ _=>rfl))
end Wx
