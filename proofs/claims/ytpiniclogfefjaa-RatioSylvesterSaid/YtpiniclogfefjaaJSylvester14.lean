import Derived.Test.YtpiniclogfefjaaCSylvesterSemRow
namespace Wx
open Go Go.RowKit Go.Proofs Go.ChangeShapes Go.WideShapes Go.ChangeAt Go.Deep

def Stands (w w':World):Prop:=∀a v,w.cell? a=some v→w'.cell? a=some v
theorem stands_of {M:Nat→Nat→Prop} {w w':World} (hM:∀k o,¬M k o) (h:Ext M w w'):Stands w w':=fun a v hv=>by
 obtain⟨b,o,s⟩:=a
 cases s with
 |none=>exact h.cell b o v (hM b o) hv
 |some s=>
  exfalso
  unfold World.cell? at hv
  split at hv
  ·simp at hv
  ·cases hv
def Opn {H:Type} (enc:TypeId×Value→H) (P:Program) (w:World) (e:TypeId) (agg:Bool) {α:Type} (C:α→Prop) (f:α→Qj):Prop:=
 ∀fuel cs (x:DataW H×List MemPlace),DataW.trod enc P w 0 (fun _=>true) true fuel e cs=some x→∃a:α,C a∧∀w',Stands w w'→f a w' (Q6 agg cs)
section
variable {H:Type} {enc:TypeId×Value→H} {P:Program} {w:World}
theorem opn_int {e:TypeId} {k:IntKind} (he:P.underlying e=some (.int k)):Opn enc P w e false (fun n=>(Lit.int k n).wf=true) fun n=>Qe (.int k n):=fun fuel cs x h=>by
 obtain⟨n,h1,_,h3⟩:=DataW.trod_int he h
 subst h1
 exact⟨n,h3,fun w' _=>rfl⟩
theorem opn_slice {t e:TypeId} {agg:Bool} {α:Type} {C:α→Prop} {f:α→Qj} (d:α) {sz:Nat} (ht:P.underlying t=some (.slice e)) (hc:P.cellsOf e=sz) (hn:0<sz) (h:Opn enc P w e agg C f):
  Opn enc P w t false (fun L:List α=>(∀a∈L,C a)∧L.length≤maxLen) fun L=>Qg sz agg L.length fun i=>f (L.getD i d):=fun fuel cs x hx=>by
 subst hc
 rcases open_slice ht hx with⟨h0,_⟩|⟨a,len,cap,m,n,D,Pl,h1,_,h3,h4,h5,_,h7⟩
 ·subst h0
  exact⟨[],⟨by simp,Nat.zero_le _⟩,fun w' _=>⟨none,0,rfl,Nat.le_refl _,Nat.zero_le _,fun h=>absurd h (Nat.lt_irrefl _)⟩⟩
 ·subst h1
  have each:∀i,i<len→∃y:α×List Value,C y.1∧w.cells? 0 (a.add (i*P.cellsOf e)) (P.cellsOf e)=some y.2∧∀w',Stands w w'→f y.1 w' (Q6 agg y.2):=fun i hi=>by
   obtain⟨cs',k1,k2⟩:=h7 i (by rw[h5]; simp; omega)
   obtain⟨y,k3,k4⟩:=h _ _ _ k2
   exact⟨(y,cs'),k3,k1,k4⟩
  have:Inhabited (α×List Value):=⟨(d,[])⟩
  obtain⟨y,hy⟩:=choose_lt each
  refine⟨(List.range len).map fun i=>(y i).1,⟨fun b hb=>?_,by simp; omega⟩,fun w' hw=>?_⟩
  ·obtain⟨i,hi,rfl⟩:=List.mem_map.1 hb
   exact(hy i (List.mem_range.1 hi)).1
  ·have hl:((List.range len).map fun i=>(y i).1).length=len:=by simp
   show Qg _ _ _ _ _ _
   rw[hl]
   refine⟨some a,cap,rfl,h3,h4,fun h0=>?_⟩
   have hspot:a.spot=none:=by
    obtain⟨_,k2,_⟩:=hy 0 h0
    obtain⟨_,k3,k4⟩:=World.cells?_some k2
    have k5:=k4 0 hn
    cases hs:a.spot with
    |none=>rfl
    |some s=>
     exfalso
     rw[List.getElem?_eq_getElem (by omega)]at k5
     unfold World.cell? Addr.add at k5
     split at k5
     ·simp[hs]at k5
     ·cases k5
   obtain⟨b,o,s⟩:=a
   simp only at hspot
   subst hspot
   refine⟨b,o,rfl,fun i hi=>?_⟩
   obtain⟨_,k2,k3⟩:=hy i hi
   obtain⟨_,k4,k5⟩:=World.cells?_some k2
   have add2:∀n:Nat,(⟨b,o,none⟩:Addr).add n=⟨b,o+n,none⟩:=fun n=>by
    unfold Addr.add
    split
    ·rename_i h
     rw[h]
     rfl
    ·rfl
   refine⟨(y i).2,k4,fun j u hj=>hw _ _ ?_,?_⟩
   ·have hjl:j<P.cellsOf e:=by
     rw[← k4]
     exact(List.getElem?_eq_some_iff.1 hj).1
    have:=k5 j hjl
    rw[hj,add2]at this
    have e2:(⟨b,o+i*P.cellsOf e,none⟩:Addr).add j=⟨b,o+i*P.cellsOf e+j,none⟩:=by
     unfold Addr.add
     split
     ·rename_i h
      rw[h]
      rfl
     ·rfl
    rw[e2]at this
    exact this
   ·have e1:((List.range len).map fun i=>(y i).1).getD i d=(y i).1:=by
     rw[List.getD_eq_getElem?_getD,List.getElem?_map,List.getElem?_range hi]
     rfl
    show f (((List.range len).map fun i=>(y i).1).getD i d) w' _
    rw[e1]
    exact k3 w' hw
theorem all_getD {α:Type} {C:α→Prop} {L:List α} {d:α} (h:∀a∈L,C a) (hd:C d) (i:Nat):C (L.getD i d):=by
 rw[List.getD_eq_getElem?_getD]
 rcases Nat.lt_or_ge i L.length with h'|h'
 ·rw[List.getElem?_eq_getElem h']
  exact h _ (List.getElem_mem h')
 ·rw[List.getElem?_eq_none h']
  exact hd
theorem Opn.arg {t e:TypeId} {α:Type} {C:α→Prop} {f:α→Qj} {v:Value} {d:DataW H} {p:List MemPlace} {r:Reach} {b0:Nat} (h:Opn enc P w t false C f) (ht:P.underlying t=some (.slice e)) (hv:Value.okWide P w r b0 t v) (hd:DataW.Trod enc P w 0 (fun _=>true) true t v d p):
  ∃a:α,C a∧∀w',Ext (fun _ _=>False) w w'→f a w' v:=by
 obtain⟨fuel,hx⟩:=hd
 obtain⟨A,n,cap,rfl⟩:=okWide_slice ht hv
 obtain⟨a,h1,h2⟩:=h _ _ _ hx
 exact⟨a,h1,fun w' he=>h2 w' (stands_of (fun _ _ h=>h) he)⟩
end
end Wx

namespace Wx
open Go Go.RowKit Go.Proofs

theorem wf_u8 {n:Int} (h:(Lit.int .u8 n).wf=true):0≤n∧n≤255:=by
 simp[Lit.wf,IntKind.min,IntKind.max,IntKind.bits,IntKind.signed]at h
 omega
theorem wf_i8 {n:Int} (h:(Lit.int .i8 n).wf=true):-128≤n∧n≤127:=by
 simp[Lit.wf,IntKind.min,IntKind.max,IntKind.bits,IntKind.signed]at h
 omega
end Wx

namespace Wx
open Go Go.RowKit Go.Proofs

theorem sg_mul (a b:Bool) (m n:Nat):sg (a != b) (m*n)=sg a m*sg b n:=by
 cases a<;>cases b<;>simp[sg,Int.mul_neg,Int.neg_mul]
theorem mul_red (x y:Rat):x*y=Yn (decide (x.num<0) != decide (y.num<0)) (x.num.natAbs*y.num.natAbs) (x.den*y.den):=by
 unfold Yn
 rw[Rat.mul_def',sg_mul,sg_mk,sg_mk]
theorem inv_red (y:Rat) (hy:y.num≠0):y⁻¹=Yn (decide (y.num<0)) y.den y.num.natAbs:=by
 rw[Rat.inv_def]
 generalize y.num=z at *
 generalize y.den=d
 unfold Yn
 match z,hy with
 |Int.ofNat k,hy=>
  have:¬((Int.ofNat k)<0):=by have:=Int.natCast_nonneg k; exact Int.not_lt.2 this
  rw[decide_eq_false this]
  exact Rat.divInt_ofNat _ _
 |Int.negSucc k,hy=>
  have:(Int.negSucc k)<0:=Int.negSucc_lt_zero k
  rw[decide_eq_true this]
  show Rat.normalize (-(d:Int)) (k+1) (by omega)=mkRat (-(d:Int)) (k+1)
  rw[Rat.mkRat_def,dif_neg (by omega)]
theorem div_red (x y:Rat) (hy:y.num≠0):x/y=Yn (decide (x.num<0) != decide (y.num<0)) (x.num.natAbs*y.den) (x.den*y.num.natAbs):=by
 rw[Rat.div_def,inv_red y hy]
 conv=>lhs; rw[← Rat.mkRat_self x]
 unfold Yn
 rw[Rat.mkRat_mul_mkRat,sg_mul,sg_mk]
theorem sg_den (z:Int) (d:Nat):z*d=sg (decide (z<0)) (z.natAbs*d):=by
 have h:=sg_mul (decide (z<0)) false z.natAbs d
 rw[show(decide (z<0) != false)=decide (z<0) by cases decide (z<0)<;>rfl,sg_mk]at h
 rw[h]; rfl
theorem add_red (x y:Rat):x+y=mkRat (sg (decide (x.num<0)) (x.num.natAbs*y.den)+sg (decide (y.num<0)) (y.num.natAbs*x.den)) (x.den*y.den):=by
 rw[Rat.add_def',sg_den,sg_den]
theorem sg_add (a:Bool) (m n:Nat):sg a m+sg a n=sg a (m+n):=by cases a<;>simp[sg]; omega
theorem sg_sub1 (a:Bool) {m n:Nat} (h:n≤m):sg a m+sg (!a) n=sg a (m-n):=by cases a<;>simp[sg]<;>omega
theorem sg_sub2 (a:Bool) {m n:Nat} (h:m≤n):sg a m+sg (!a) n=sg (!a) (n-m):=by cases a<;>simp[sg]<;>omega
theorem bne_of_ne {a b:Bool} (h:¬a=b):b=!a:=by cases a<;>cases b<;>simp_all
theorem add_same (x y:Rat) (h:decide (x.num<0)=decide (y.num<0)):x+y=Yn (decide (x.num<0)) (x.num.natAbs*y.den+y.num.natAbs*x.den) (x.den*y.den):=by
 rw[add_red,← h,sg_add]; rfl
theorem add_ge (x y:Rat) (h:¬decide (x.num<0)=decide (y.num<0)) (hge:y.num.natAbs*x.den≤x.num.natAbs*y.den):x+y=Yn (decide (x.num<0)) (x.num.natAbs*y.den-y.num.natAbs*x.den) (x.den*y.den):=by
 rw[add_red,bne_of_ne h,sg_sub1 _ hge]; rfl
theorem add_lt (x y:Rat) (h:¬decide (x.num<0)=decide (y.num<0)) (hge:x.num.natAbs*y.den≤y.num.natAbs*x.den):x+y=Yn (decide (y.num<0)) (y.num.natAbs*x.den-x.num.natAbs*y.den) (x.den*y.den):=by
 rw[add_red,bne_of_ne h,sg_sub2 _ hge]; rfl
theorem BdR.mul {j k:Nat} {x y:Rat} (h:BdR j x) (g:BdR k y):BdR (j+k) (x*y):=by
 rw[mul_red]
 exact K6 (Nat.mul_pos x.den_pos y.den_pos) (h.1.mul g.1) (h.2.mul g.2)
theorem BdR.div {j k:Nat} {x y:Rat} (h:BdR j x) (g:BdR k y) (hy:y.num≠0):BdR (j+k) (x/y):=by
 rw[div_red _ _ hy]
 exact K6 (Nat.mul_pos x.den_pos (by omega)) (h.1.mul g.2) (h.2.mul g.1)
theorem BdR.neg {j:Nat} {x:Rat} (h:BdR j x):BdR j (-x):=⟨by rw[Rat.neg_num,Int.natAbs_neg]; exact h.1,h.2⟩
theorem BdR.add {j k:Nat} {x y:Rat} (h:BdR j x) (g:BdR k y):BdR (j+k+j+k+1) (x+y):=by
 have a:=h.1.mul g.2
 have b:=g.1.mul h.2
 have d:=h.2.mul g.2
 have hd:=Nat.mul_pos x.den_pos y.den_pos
 have ab:Bd (j+k+j+k+1) (x.num.natAbs*y.den+y.num.natAbs*x.den):=(a.add b).mono (by omega)
 have d':Bd (j+k+j+k+1) (x.den*y.den):=d.mono (by omega)
 by_cases hs:decide (x.num<0)=decide (y.num<0)
 ·rw[add_same x y hs]; exact K6 hd ab d'
 ·by_cases hge:y.num.natAbs*x.den≤x.num.natAbs*y.den
  ·rw[add_ge x y hs hge]; exact K6 hd (ab.le (by omega)) d'
  ·rw[add_lt x y hs (by omega)]; exact K6 hd (ab.le (by omega)) d'
end Wx

namespace Wx
open Go Go.RowKit Go.Proofs

theorem add64_at {x y c:Operand} {ops:Array Oper} {Q:Exit→Act→World→Prop} {o:Oper} {rest:List Oper} {a:Act} {w:World} {X Y C:Int}
  (hx:a.eval x=.int .u64 X) (hy:a.eval y=.int .u64 Y) (hc:a.eval c=.int .u64 C) (x0:0≤X) (y0:0≤Y) (c0:0≤C) (c1:C≤1)
  (hK:wpList Try.prog ops Q rest (a.put o.dst (.tuple #[.int .u64 (addLo X Y C),.int .u64 (addHi X Y C)])) w):Ext3 Try.prog 66 x y c ops Q o rest a w:=
 add64_ext Try.func66 (by kernel_rfl) (by kernel_rfl) (by kernel_rfl) (by kernel_rfl) hx hy hc x0 y0 c0 c1 hK

theorem addLo_nat (x y c:Nat):addLo (x:Int) y c=(((x+y+c)%Qb:Nat):Int):=by unfold addLo Qb; omega
theorem addHi_nat (x y c:Nat):addHi (x:Int) y c=(((x+y+c)/Qb:Nat):Int):=by unfold addHi Qb; omega
theorem addLo_nat0 (x c:Nat):addLo (x:Int) 0 c=(((x+0+c)%Qb:Nat):Int):=addLo_nat x 0 c
theorem addHi_nat0 (x c:Nat):addHi (x:Int) 0 c=(((x+0+c)/Qb:Nat):Int):=addHi_nat x 0 c
theorem carry_le {x y c:Nat} (hx:x<Qb) (hy:y<Qb) (hc:c≤1):(x+y+c)/Qb≤1:=by unfold Qb at *; omega

theorem plus_round {x y o:List Nat} {i cr vx vy:Nat} {g:Nat} {wr w0:World} (hol:o.length=i) (hlt:i<x.length) (wx:Wf Qb x) (wy:Wf Qb y) (hcr:cr≤1) (hwo:Wf Qb o)
  (hx:x[i]?=some vx) (hy:y.getD i 0=vy) (hr:Row wr .u64 81 g (o++List.replicate (x.length+1-i) 0)) (hbl:Below w0.heap.size w0 wr) (hg:w0.heap.size≤g)
  (hval:Ql Qb o+Qb^i*cr=Ql Qb (x.take i)+Ql Qb (y.take i)):
  ∃(cr':Nat) (o':List Nat),((vx+vy+cr)/Qb=cr')∧cr'≤1∧o'.length=i+1∧Wf Qb o' ∧
   Row (wr.setCell ⟨g,i,none⟩ (.int .u64 (((vx+vy+cr)%Qb:Nat):Int))) .u64 81 g (o'++List.replicate (x.length+1-(i+1)) 0) ∧
   Below w0.heap.size w0 (wr.setCell ⟨g,i,none⟩ (.int .u64 (((vx+vy+cr)%Qb:Nat):Int)))∧Ql Qb o'+Qb^(i+1)*cr'=Ql Qb (x.take (i+1))+Ql Qb (y.take (i+1)):=by
 have hvx:vx<Qb:=wx _ (List.mem_of_getElem? hx)
 have hvy:vy<Qb:=by
  rw[← hy,List.getD_eq_getElem?_getD]
  cases h:y[i]? with
  |none=>simp[Qb]
  |some z=>exact wy _ (List.mem_of_getElem? h)
 refine⟨_,o++[(vx+vy+cr)%Qb],rfl,carry_le hvx hvy hcr,by simp[hol],hwo.append (Wf.cons (Nat.mod_lt _ (by unfold Qb; omega)) (Wf.nil _)),?_,hbl.setCell hg _,?_⟩
 ·have h:=hr.set i ((vx+vy+cr)%Qb)
  rw[show x.length+1-i=(x.length+1-(i+1))+1 by omega,List.replicate_succ,Qcv hol]at h
  rw[List.append_assoc]
  exact h
 ·exact sum_step hol hval (Z4 hx) (by rw[Qak,hy]) (by have:=Nat.mod_add_div (vx+vy+cr) Qb; omega)

theorem plus_top {x y o:List Nat} {cr:Nat} (hx:Top x) (wx:Wf Qb x) (wo:Wf Qb o) (hol:o.length=x.length) (hxl:2≤Qb) (hval:Ql Qb o+Qb^o.length*cr=Ql Qb x+Ql Qb y):cr=0→Top o:=by
 rintro rfl
 refine top_of_pow wo ?_
 by_cases h:o=[]
 ·exact .inl h
 ·refine .inr ?_
  have hd:=Qc2 hxl wx hx
  have hpos:0<Ql Qb x:=by
   rcases Nat.eq_zero_or_pos (Ql Qb x)with h0|h0
   ·rw[h0,Ys]at hd
    rw[← hd]at hol
    exact absurd (List.eq_nil_of_length_eq_zero hol) h
   ·exact h0
  have:=Qco hxl hpos
  rw[hd]at this
  rw[hol]
  simp at hval
  omega

set_option maxHeartbeats 400000 in
theorem plus_num (w:World) (v1 v2:Value) (m n:Nat) (h1:Num .u64 Qb w v1 m) (h2:Num .u64 Qb w v2 n) {j k:Nat} (hj:Bd j m) (hk:Bd k n) (hj1:j≤1000000000) (hk1:k≤1000000000):
  Calls Try.prog 41 #[v1,v2] w (K4 .u64 Qb w (m+n)):=by
 obtain⟨A,c,rfl,ha⟩:=h1
 obtain⟨B,d,rfl,hb⟩:=h2
 have hla:=len64 hj
 have hlb:=len64 hk
 have hv:Ql Qb (digs Qb m)+Ql Qb (digs Qb n)=m+n:=by rw[Zi Qv,Zi Qv]
 have wa:=Jk Qv m
 have wb:=Jk Qv n
 have ta:=Qc1 Qv m
 have tb:=Qc1 Qv n
 clear hj hk
 generalize digs Qb m=a at *
 generalize digs Qb n=b at *
 generalize m+n=s at *
 go_enter Try.func41,Try.ntmps41
 go_upto_if 14 with fail
 go_cut [0,1] (fun v0 v1 w'=>w'=w∧∃X cx x Y cy y,v0=.slice X x.length cx∧v1=.slice Y y.length cy∧Rd w .u64 X cx x∧Rd w .u64 Y cy y∧Wf Qb x∧Wf Qb y∧Top x∧y.length≤x.length∧x.length≤1000000000∧Ql Qb x+Ql Qb y=s)
 case first=>
  by_cases h:a.length<b.length
  ·go_wp2
   go_meet
   case rel=>exact⟨rfl,B,d,b,A,c,a,rfl,rfl,hb,ha,wb,wa,tb,by omega,by omega,by omega⟩
  ·go_wp2
   go_meet
   case rel=>exact⟨rfl,A,c,a,B,d,b,rfl,rfl,ha,hb,wa,wb,ta,by omega,by omega,hv⟩
 case rest=>
  obtain⟨rfl,X,cx,x,Y,cy,y,rfl,rfl,hx,hy,wx,wy,tx,hyx,hx1,hs⟩:=hcut
  clear ha hb wa wb ta tb hla hlb hv
  have HS:=Lib.hid hs
  clear hs
  have hlx:=hx.len
  have hly:=hy.len
  go_wp2_with (at_make; refine Wd _ rfl _ _ _ rfl .u64 81 Try.underlying30 Vu _ _ rfl rfl (by omega) (by omega) (by omega) ?_; intro w1 hrow hbel hsz)
  go_loopw [6,25] (fun s6 s25 wr=>∃(i cr:Nat) (o:List Nat),i≤x.length∧s25=.int .i64 i∧s6=.int .u64 cr∧cr≤1∧o.length=i∧Wf Qb o∧Row wr .u64 81 wc.heap.size (o++List.replicate (x.length+1-i) 0)∧Below wc.heap.size wc wr∧Ql Qb o+Qb^i*cr=Ql Qb (x.take i)+Ql Qb (y.take i))
   (fun _ s25 _=>x.length-(intOf s25).toNat)
  case atStart=>exact⟨0,0,[],by omega,rfl,rfl,by omega,rfl,Wf.nil _,by simpa using hrow,hbel,by simp[Ql]⟩
  case round=>
   obtain⟨i,cr,o,hi,rfl,rfl,hcr,hol,hwo,hr,hbl,hval⟩:=hrel
   have HVAL:=Lib.hid hval
   have HOL:=Lib.hid hol
   clear hval hol hrow hbel hsz
   by_cases hlt:i<x.length
   ·obtain⟨bx,ox,vx,rfl,hcx,HVX⟩:=(hx.below hbl).get hlt
    obtain⟨vo,hco,HVO⟩:=hr.get (i:=i) (by have:=HOL.out; simp; omega)
    have hcf:=hr.frozen i
    by_cases hy1:i<y.length
    ·obtain⟨by_,oy,vy,rfl,hcy,HVY⟩:=(hy.below hbl).get hy1
     go_wp2_with ((with_reducible refine Wo 66 rfl rfl ?_); refine add64_at rfl rfl rfl (by omega) (by omega) (by omega) (by omega) ?_)
     go_roundw
     case rel=>
      rw[addLo_nat,addHi_nat]
      obtain⟨cr',o',e,r⟩:=plus_round (vy:=vy) HOL.out hlt wx wy hcr hwo HVX.out (by rw[List.getD_eq_getElem?_getD,HVY.out]; rfl) hr hbl (Nat.le_refl _) HVAL.out
      exact⟨i+1,cr',o',by omega,by go_num,by rw[e],r⟩
     case measure=>simp[intOf]; omega
    ·go_wp2_with ((with_reducible refine Wo 66 rfl rfl ?_); refine add64_at rfl rfl rfl (by omega) (by omega) (by omega) (by omega) ?_)
     go_roundw
     case rel=>
      rw[addLo_nat0,addHi_nat0]
      obtain⟨cr',o',e,r⟩:=plus_round (vy:=0) HOL.out hlt wx wy hcr hwo HVX.out (by rw[List.getD_eq_getElem?_getD,List.getElem?_eq_none (by omega)]; rfl) hr hbl (Nat.le_refl _) HVAL.out
      exact⟨i+1,cr',o',by omega,by go_num,by rw[e],r⟩
     case measure=>simp[intOf]; omega
   ·obtain rfl:i=x.length:=by omega
    have hfin:Ql Qb o+Qb^o.length*cr=s:=by
     have:=HVAL.out
     rw[HOL.out,this,List.take_of_length_le (Nat.le_refl _),List.take_of_length_le (by omega)]; exact HS.out
    have HF:=Lib.hid hfin
    clear hfin
    rw[show x.length+1-x.length=1 by omega,show List.replicate 1 0=[0]from rfl]at hr
    rcases Nat.eq_zero_or_pos cr with rfl|hc0
    ·go_wp2
     go_ret
     refine⟨_,rfl,?_,hbl⟩
     have h:=hr.rd (n:=x.length) (c:=x.length+1) (by simp; have:=HOL.out; omega) (by omega) (by unfold maxLen; omega)
     rw[← HOL.out,List.take_left]at h
     have hF:=HF.out
     rw[Nat.mul_zero,Nat.add_zero]at hF
     rw[← hF,← HOL.out]
     exact Num.of Qv h rfl hwo (plus_top (y:=y) tx wx hwo HOL.out Qv (by have h1:=HF.out; have h2:=HS.out; omega) rfl)
    ·have hA:=hr.keep ((Below.refl _ _).alloc (Nat.le_refl _) (.cells #[.int .u64 (cr:Int)] 81))
     obtain⟨vo,hco,_⟩:=hA.get (i:=x.length) (by simp; have:=HOL.out; omega)
     have hcf:=hA.frozen x.length
     go_wp2
     go_ret
     refine⟨_,rfl,?_,(hbl.alloc hbl.size _).setCell (Nat.le_refl _) _⟩
     have hR:=hA.set x.length cr
     rw[Qcv HOL.out]at hR
     have hF:=HF.out
     rw[← Qby]at hF
     rw[← hF]
     have hl:(o++[cr]).length=x.length+1:=by simp[HOL.out]
     exact Num.of Qv (hR.rd_all (by omega) (by unfold maxLen; omega)) hl (hwo.append (Wf.cons (by unfold Qb; omega) (Wf.nil _))) (by unfold Top; simp; omega)
end Wx

namespace Wx

end Wx

namespace Wx
open Go Go.RowKit Go.Proofs

theorem Qr:Ty Try.prog 32 true 3:=⟨fun _=>by kernel_rfl,fun _=>by kernel_rfl,by decide⟩
theorem Jj:∀w,(zeroValue 32).run Try.prog w=.ok (.agg #[.bool false,.slice none 0 0,.slice none 0 0]) w:=fun _=>by kernel_rfl
theorem bt_Ratio:BuildTy Try.prog 32 #[(0,1),(1,1),(2,1)] [.bool false,.slice none 0 0,.slice none 0 0]:=fun _=>by kernel_rfl
theorem Ur:∀b o w,(Instr.fieldAt 32 (.pointer (some ⟨b,o,none⟩)) 0).run Try.prog w=.ok (.pointer (some ⟨b,o+0,none⟩)) w:=fun _ _ _=>by kernel_rfl
theorem fa_Ratio_1:∀b o w,(Instr.fieldAt 32 (.pointer (some ⟨b,o,none⟩)) 1).run Try.prog w=.ok (.pointer (some ⟨b,o+1,none⟩)) w:=fun _ _ _=>by kernel_rfl
theorem fa_Ratio_2:∀b o w,(Instr.fieldAt 32 (.pointer (some ⟨b,o,none⟩)) 2).run Try.prog w=.ok (.pointer (some ⟨b,o+2,none⟩)) w:=fun _ _ _=>by kernel_rfl
theorem ty_int:Ty Try.prog 3 false 1:=⟨fun _=>by kernel_rfl,fun _=>by kernel_rfl,by decide⟩
theorem Qcw:Ty Try.prog 4 false 1:=⟨fun _=>by kernel_rfl,fun _=>by kernel_rfl,by decide⟩
theorem Qdp:Ty Try.prog 30 false 1:=⟨fun _=>by kernel_rfl,fun _=>by kernel_rfl,by decide⟩
theorem Qy:SlTy Try.prog 28 32 3:=⟨by kernel_rfl,fun _=>by kernel_rfl⟩
theorem Qx:SlTy Try.prog 27 28 1:=⟨by kernel_rfl,fun _=>by kernel_rfl⟩
end Wx

namespace Wx
open Go Go.RowKit Go.Proofs

def Q3 (n:Nat):Qj:=fun w v=>Num .u64 Qb w v n
theorem Kb (n:Nat):Zs (Q3 n):=fun _ _ _ hM h=>num_box hM (.inl rfl) h
theorem fits_num (n:Nat):Jn 1 false (Q3 n):=by
 rintro w v ⟨A,c,rfl,_⟩
 refine⟨[_],rfl,rfl,rfl,?_⟩
 intro u hu
 simp at hu
 subst hu
 exact⟨Kp _ _ _,rfl⟩
def Xx (q:Rat):List Fd:=[⟨false,1,pB (decide (q.num<0))⟩,⟨false,1,Q3 q.num.natAbs⟩,⟨false,1,Q3 (Qm q.den)⟩]
theorem rat_S (q:Rat):∀w v,Qk q w v→pS (Xx q) w v:=by
 rintro w v ⟨vn,vd,rfl,h1,h2⟩
 exact pS_of' (cs:=[.bool (decide (q.num<0)),vn,vd]) ⟨by simp,rfl,by simp,h1,by simp,h2,rfl⟩
theorem fits_ratS (q:Rat):Jn 3 true (pS (Xx q)):=fits_s (fs:=Xx q) ⟨fits_bool _,fits_num _,fits_num _,trivial⟩ rfl
theorem ret_num {w:World} {n:Nat} {e:Ending} {w':World} (h:K4 .u64 Qb w n e w'):Kx (Q3 n) w e w':=h
theorem c_lcmp (m n:Nat):∀w v1 v2,Q3 m w v1→Q3 n w v2→Calls Try.prog 42 #[v1,v2] w (Kx (pI (Yv m n)) w):=fun w v1 v2 h1 h2=>(Wp w v1 v2 m n h1 h2).mono fun _ _ h=>⟨_,h.1,rfl,h.2⟩
theorem c_plus {m n j k:Nat} (hj:Bd j m) (hk:Bd k n) (hj1:j≤1000000000) (hk1:k≤1000000000):∀w v1 v2,Q3 m w v1→Q3 n w v2→Calls Try.prog 41 #[v1,v2] w (Kx (Q3 (m+n)) w):=fun w v1 v2 h1 h2=>(plus_num w v1 v2 m n h1 h2 hj hk hj1 hk1).mono fun _ _=>ret_num
theorem c_under {d:Nat} (hd:0<d):∀w v1,Q3 (Qm d) w v1→Calls Try.prog 40 #[v1] w (Kx (Q3 d) w):=fun w v1 h1=>(Wc w v1 d h1 hd).mono fun _ _=>ret_num
section
variable {P:Program} {ops:Array Oper} {ms:List Nat} {c:Cfg} {V:List Vr} {A:List Al} {G:List Ent} {i:Nat} {L:Nat→Bool} {β:Nat→Nat→Prop} {a:Act} {w:World} {o:Oper}
variable {d:Nat} {x y z:Operand} {ty:TypeId} {pos:String} {aft:Array Edge}
theorem op_loadEq {T:TypeId} {v:Value} (h:Has ms G i x (Zc 1 false (Qe v))) (ht:Ty P T false 1) (hp:Post G i (Qe v)):Xf P ops ms c V A G i ⟨some d,.load T x,ty,pos,aft,none⟩:=
 Qaa rfl rfl rfl rfl h hp fun ρ w h=>by
  obtain⟨b,o,cs,e,hl,hc,hv⟩:=h
  refine⟨Q6 false cs,?_,fun _ _=>hv⟩
  show(do pure (Next.value (← Instr.loadAt T (ρ x)))).run P w=_
  rw[e,Sem.run_bind,Ws ht hc hl]
  rfl
end
end Wx
