import Derived.Test.YtpiniclogfefjaaGreatCMatricesSemRow
namespace Wx
open Go Go.RowKit Go.Proofs Go.ChangeShapes Go.WideShapes Go.ChangeAt Go.Deep

def Stands (w w':World):Prop:=∀a v,w.cell? a=some v→w'.cell? a=some v
theorem stands_of {M:Nat→Nat→Prop} {w w':World} (hM:∀k o,¬M k o) (h:Ext M w w'):Stands w w':=fun a v hv=>by
  obtain⟨b,o,s⟩:=a
  cases s with
  |none=>exact h.cell b o v (hM b o) hv
  |some s=>
    exfalso
    unfold World.cell? at hv
    split at hv
    · simp at hv
    · cases hv
def Opn {H:Type} (enc:TypeId×Value→H) (P:Program) (w:World) (e:TypeId) (agg:Bool) {α:Type} (C:α→Prop) (f:α→Qm):Prop:=
  ∀fuel cs (x:DataW H×List MemPlace),DataW.trod enc P w 0 (fun _=>true) true fuel e cs=some x→∃a:α,C a∧∀w',Stands w w'→f a w' (Xf agg cs)
section
variable {H:Type} {enc:TypeId×Value→H} {P:Program} {w:World}
theorem opn_int {e:TypeId} {k:IntKind} (he:P.underlying e=some (.int k)):Opn enc P w e false (fun n=>(Lit.int k n).wf=true) fun n=>Qp (.int k n):=fun fuel cs x h=>by
  obtain⟨n,h1,_,h3⟩:=DataW.trod_int he h
  subst h1
  exact⟨n,h3,fun w' _=>rfl⟩
theorem opn_slice {t e:TypeId} {agg:Bool} {α:Type} {C:α→Prop} {f:α→Qm} (d:α) {sz:Nat} (ht:P.underlying t=some (.slice e)) (hc:P.cellsOf e=sz) (hn:0<sz) (h:Opn enc P w e agg C f):
    Opn enc P w t false (fun L:List α=>(∀a∈L,C a)∧L.length≤maxLen) fun L=>Qd sz agg L.length fun i=>f (L.getD i d):=fun fuel cs x hx=>by
  subst hc
  rcases open_slice ht hx with⟨h0,_⟩|⟨a,len,cap,m,n,D,Pl,h1,_,h3,h4,h5,_,h7⟩
  · subst h0
    exact⟨[],⟨by simp,Nat.zero_le _⟩,fun w' _=>⟨none,0,rfl,Nat.le_refl _,Nat.zero_le _,fun h=>absurd h (Nat.lt_irrefl _)⟩⟩
  · subst h1
    have each:∀i,i<len→∃y:α×List Value,C y.1∧w.cells? 0 (a.add (i*P.cellsOf e)) (P.cellsOf e)=some y.2∧∀w',Stands w w'→f y.1 w' (Xf agg y.2):=fun i hi=>by
      obtain⟨cs',k1,k2⟩:=h7 i (by rw[h5]; simp; omega)
      obtain⟨y,k3,k4⟩:=h _ _ _ k2
      exact⟨(y,cs'),k3,k1,k4⟩
    have:Inhabited (α×List Value):=⟨(d,[])⟩
    obtain⟨y,hy⟩:=choose_lt each
    refine⟨(List.range len).map fun i=>(y i).1,⟨fun b hb=>?_,by simp; omega⟩,fun w' hw=>?_⟩
    · obtain⟨i,hi,rfl⟩:=List.mem_map.1 hb
      exact(hy i (List.mem_range.1 hi)).1
    · have hl:((List.range len).map fun i=>(y i).1).length=len:=by simp
      show Qd _ _ _ _ _ _
      rw[hl]
      refine⟨some a,cap,rfl,h3,h4,fun h0=>?_⟩
      have hspot:a.spot=none:=by
        obtain⟨_,k2,_⟩:=hy 0 h0
        obtain⟨_,k3,k4⟩:=World.cells?_some k2
        have k5:=k4 0 hn
        cases hs:a.spot with
        |none=>rfl
        |some s=>
          exfalso
          rw[List.getElem?_eq_getElem (by omega)]at k5
          unfold World.cell? Addr.add at k5
          split at k5
          · simp[hs]at k5
          · cases k5
      obtain⟨b,o,s⟩:=a
      simp only at hspot
      subst hspot
      refine⟨b,o,rfl,fun i hi=>?_⟩
      obtain⟨_,k2,k3⟩:=hy i hi
      obtain⟨_,k4,k5⟩:=World.cells?_some k2
      have add2:∀n:Nat,(⟨b,o,none⟩:Addr).add n=⟨b,o+n,none⟩:=fun n=>by
        unfold Addr.add
        split
        · rename_i h
          rw[h]
          rfl
        · rfl
      refine⟨(y i).2,k4,fun j u hj=>hw _ _ ?_,?_⟩
      · have hjl:j<P.cellsOf e:=by
          rw[← k4]
          exact(List.getElem?_eq_some_iff.1 hj).1
        have:=k5 j hjl
        rw[hj,add2]at this
        have e2:(⟨b,o+i*P.cellsOf e,none⟩:Addr).add j=⟨b,o+i*P.cellsOf e+j,none⟩:=by
          unfold Addr.add
          split
          · rename_i h
            rw[h]
            rfl
          · rfl
        rw[e2]at this
        exact this
      · have e1:((List.range len).map fun i=>(y i).1).getD i d=(y i).1:=by
          rw[List.getD_eq_getElem?_getD,List.getElem?_map,List.getElem?_range hi]
          rfl
        show f (((List.range len).map fun i=>(y i).1).getD i d) w' _
        rw[e1]
        exact k3 w' hw
theorem Opn.arg {t e:TypeId} {α:Type} {C:α→Prop} {f:α→Qm} {v:Value} {d:DataW H} {p:List MemPlace} {r:Reach} {b0:Nat} (h:Opn enc P w t false C f) (ht:P.underlying t=some (.slice e)) (hv:Value.okWide P w r b0 t v) (hd:DataW.Trod enc P w 0 (fun _=>true) true t v d p):
    ∃a:α,C a∧∀w',Ext (fun _ _=>False) w w'→f a w' v:=by
  obtain⟨fuel,hx⟩:=hd
  obtain⟨A,n,cap,rfl⟩:=okWide_slice ht hv
  obtain⟨a,h1,h2⟩:=h _ _ _ hx
  exact⟨a,h1,fun w' he=>h2 w' (stands_of (fun _ _ h=>h) he)⟩
end
end Wx

namespace Wx
open Go Go.RowKit Go.Proofs Go.ChangeShapes Go.WideShapes Go.ChangeAt Go.Deep

section
variable {H:Type} {enc:TypeId×Value→H} {P:Program} {w:World}
def OpnFs {H:Type} (enc:TypeId×Value→H) (P:Program) (w:World) (N o:Nat) (ts:List (TypeId×Nat)) {α:Type} (C:α→Prop) (F:α→List Fd):Prop:=
  ∀(fuel:Nat) (cs:List Value),cs.length=N→(∀p,p∈ts→∃x:DataW H×List MemPlace,DataW.trod enc P w 0 (fun _=>true) true fuel p.1 ((cs.drop p.2).take (P.cellsOf p.1))=some x)→∃a:α,C a∧∀w',Stands w w'→Jt (F a) w' (cs.drop o)
theorem opnFs_nil {N:Nat}:OpnFs enc P w N N [] (fun _:Unit=>True) fun _=>[]:=fun _ _ hl _=>⟨(),trivial,fun _ _=>List.drop_eq_nil_of_le (Nat.le_of_eq hl)⟩
theorem opnFs_cons {e:TypeId} {N o n:Nat} {agg:Bool} {α β:Type} {C:α→Prop} {f:α→Qm} {D:β→Prop} {F:β→List Fd} {ts:List (TypeId×Nat)} (h:Opn enc P w e agg C f) (hn:P.cellsOf e=n) (hle:o+n≤N) (r:OpnFs enc P w N (o+n) ts D F):
    OpnFs enc P w N o ((e,o)::ts) (fun p:α×β=>C p.1∧D p.2) fun p=>⟨agg,n,f p.1⟩::F p.2:=fun fuel cs hl hp=>by
  obtain⟨x,hx⟩:=hp (e,o) (List.mem_cons_self ..)
  have hx:DataW.trod enc P w 0 (fun _=>true) true fuel e ((cs.drop o).take (P.cellsOf e))=some x:=hx
  rw[hn]at hx
  obtain⟨a,ha,hf⟩:=h _ _ _ hx
  obtain⟨b,hb,hg⟩:=r fuel cs hl fun p hp'=>hp p (List.mem_cons_of_mem _ hp')
  refine⟨(a,b),⟨ha,hb⟩,fun w' hw=>⟨?_,hf w' hw,?_⟩⟩
  · show n≤(cs.drop o).length
    rw[List.length_drop]
    omega
  · show Jt (F b) w' ((cs.drop o).drop n)
    rw[List.drop_drop]
    exact hg w' hw
theorem opn_struct {t:TypeId} {fs:Array Field} {N:Nat} {ts:List (TypeId×Nat)} {α:Type} {C:α→Prop} {F:α→List Fd} (ht:P.underlying t=some (.struct fs)) (hN:P.cellsOf t=N) (hts:fs.toList.map (fun f=>(f.type,f.offset))=ts) (h:OpnFs enc P w N 0 ts C F):Opn enc P w t true C fun a=>pS (F a):=fun fuel cs x hx=>by
  obtain⟨xs,n,_,_,hl,hlen,hg⟩:=DataW.trod_struct ht hx
  obtain⟨a,ha,hf⟩:=h n cs (hl.trans hN) fun p hp=>by
    rw[← hts]at hp
    obtain⟨f,hf,rfl⟩:=List.mem_map.1 hp
    obtain⟨i,hi⟩:=List.mem_iff_getElem?.1 hf
    have hi':fs[i]?=some f:=by rw[← Array.getElem?_toList]; exact hi
    have hlt:i<xs.length:=by
      rw[hlen]
      rcases Nat.lt_or_ge i fs.size with h'|h'
      · exact h'
      · rw[Array.getElem?_eq_none h']at hi'; cases hi'
    exact⟨xs[i],(hg i f hi').trans (List.getElem?_eq_getElem hlt)⟩
  exact⟨a,ha,fun w' hw=>⟨cs,rfl,hf w' hw⟩⟩
end
end Wx

namespace Wx
open Go Go.RowKit Go.Proofs

end Wx

namespace Wx
open Go Go.RowKit Go.Proofs Go.ChangeShapes Go.WideShapes Go.ChangeAt Go.Joins Go.Deep

section
variable {H:Type} {enc:TypeId×Value→H} {P:Program} {w:World} {base:Nat} {spare:Nat→Bool} {held:Bool}
end
section
variable {H:Type} {enc:TypeId×Value→H} {w:World} {base:Nat} {spare:Nat→Bool} {held:Bool}
end
end Wx

namespace Wx
open Go Go.RowKit Go.Proofs

theorem sg_mul (a b:Bool) (m n:Nat):sg (a != b) (m*n)=sg a m*sg b n:=by
  cases a<;>cases b<;>simp[sg,Int.mul_neg,Int.neg_mul]
theorem mul_red (x y:Rat):x*y=Yn (decide (x.num<0) != decide (y.num<0)) (x.num.natAbs*y.num.natAbs) (x.den*y.den):=by
  unfold Yn
  rw[Rat.mul_def',sg_mul,sg_mk,sg_mk]
theorem inv_red (y:Rat) (hy:y.num≠0):y⁻¹=Yn (decide (y.num<0)) y.den y.num.natAbs:=by
  rw[Rat.inv_def]
  generalize y.num=z at *
  generalize y.den=d
  unfold Yn
  match z,hy with
  |Int.ofNat k,hy=>
    have:¬((Int.ofNat k)<0):=by have:=Int.natCast_nonneg k; exact Int.not_lt.2 this
    rw[decide_eq_false this]
    exact Rat.divInt_ofNat _ _
  |Int.negSucc k,hy=>
    have:(Int.negSucc k)<0:=Int.negSucc_lt_zero k
    rw[decide_eq_true this]
    show Rat.normalize (-(d:Int)) (k+1) (by omega)=mkRat (-(d:Int)) (k+1)
    rw[Rat.mkRat_def,dif_neg (by omega)]
theorem div_red (x y:Rat) (hy:y.num≠0):x/y=Yn (decide (x.num<0) != decide (y.num<0)) (x.num.natAbs*y.den) (x.den*y.num.natAbs):=by
  rw[Rat.div_def,inv_red y hy]
  conv=>lhs; rw[← Rat.mkRat_self x]
  unfold Yn
  rw[Rat.mkRat_mul_mkRat,sg_mul,sg_mk]
theorem sg_den (z:Int) (d:Nat):z*d=sg (decide (z<0)) (z.natAbs*d):=by
  have h:=sg_mul (decide (z<0)) false z.natAbs d
  rw[show(decide (z<0) != false)=decide (z<0) by cases decide (z<0)<;>rfl,sg_mk]at h
  rw[h]; rfl
theorem add_red (x y:Rat):x+y=mkRat (sg (decide (x.num<0)) (x.num.natAbs*y.den)+sg (decide (y.num<0)) (y.num.natAbs*x.den)) (x.den*y.den):=by
  rw[Rat.add_def',sg_den,sg_den]
theorem sg_add (a:Bool) (m n:Nat):sg a m+sg a n=sg a (m+n):=by cases a<;>simp[sg]; omega
theorem sg_sub1 (a:Bool) {m n:Nat} (h:n≤m):sg a m+sg (!a) n=sg a (m-n):=by cases a<;>simp[sg]<;>omega
theorem sg_sub2 (a:Bool) {m n:Nat} (h:m≤n):sg a m+sg (!a) n=sg (!a) (n-m):=by cases a<;>simp[sg]<;>omega
theorem bne_of_ne {a b:Bool} (h:¬a=b):b=!a:=by cases a<;>cases b<;>simp_all
theorem Qee (x y:Rat) (h:decide (x.num<0)=decide (y.num<0)):x+y=Yn (decide (x.num<0)) (x.num.natAbs*y.den+y.num.natAbs*x.den) (x.den*y.den):=by
  rw[add_red,← h,sg_add]; rfl
theorem add_ge (x y:Rat) (h:¬decide (x.num<0)=decide (y.num<0)) (hge:y.num.natAbs*x.den≤x.num.natAbs*y.den):x+y=Yn (decide (x.num<0)) (x.num.natAbs*y.den-y.num.natAbs*x.den) (x.den*y.den):=by
  rw[add_red,bne_of_ne h,sg_sub1 _ hge]; rfl
theorem add_lt (x y:Rat) (h:¬decide (x.num<0)=decide (y.num<0)) (hge:x.num.natAbs*y.den≤y.num.natAbs*x.den):x+y=Yn (decide (y.num<0)) (y.num.natAbs*x.den-x.num.natAbs*y.den) (x.den*y.den):=by
  rw[add_red,bne_of_ne h,sg_sub2 _ hge]; rfl
theorem BdR.mul {j k:Nat} {x y:Rat} (h:BdR j x) (g:BdR k y):BdR (j+k) (x*y):=by
  rw[mul_red]
  exact W4 (Nat.mul_pos x.den_pos y.den_pos) (h.1.mul g.1) (h.2.mul g.2)
theorem BdR.div {j k:Nat} {x y:Rat} (h:BdR j x) (g:BdR k y) (hy:y.num≠0):BdR (j+k) (x/y):=by
  rw[div_red _ _ hy]
  exact W4 (Nat.mul_pos x.den_pos (by omega)) (h.1.mul g.2) (h.2.mul g.1)
theorem BdR.neg {j:Nat} {x:Rat} (h:BdR j x):BdR j (-x):=⟨by rw[Rat.neg_num,Int.natAbs_neg]; exact h.1,h.2⟩
theorem BdR.add {j k:Nat} {x y:Rat} (h:BdR j x) (g:BdR k y):BdR (j+k+j+k+1) (x+y):=by
  have a:=h.1.mul g.2
  have b:=g.1.mul h.2
  have d:=h.2.mul g.2
  have hd:=Nat.mul_pos x.den_pos y.den_pos
  have ab:Bd (j+k+j+k+1) (x.num.natAbs*y.den+y.num.natAbs*x.den):=(a.add b).mono (by omega)
  have d':Bd (j+k+j+k+1) (x.den*y.den):=d.mono (by omega)
  by_cases hs:decide (x.num<0)=decide (y.num<0)
  · rw[Qee x y hs]; exact W4 hd ab d'
  · by_cases hge:y.num.natAbs*x.den≤x.num.natAbs*y.den
    · rw[add_ge x y hs hge]; exact W4 hd (ab.le (by omega)) d'
    · rw[add_lt x y hs (by omega)]; exact W4 hd (ab.le (by omega)) d'
end Wx

namespace Wx
open Go Go.RowKit Go.Proofs

theorem add64_at {x y c:Operand} {ops:Array Oper} {Q:Exit→Act→World→Prop} {o:Oper} {rest:List Oper} {a:Act} {w:World} {X Y C:Int}
    (hx:a.eval x=.int .u64 X) (hy:a.eval y=.int .u64 Y) (hc:a.eval c=.int .u64 C) (x0:0≤X) (y0:0≤Y) (c0:0≤C) (c1:C≤1)
    (hK:wpList Tryz.prog ops Q rest (a.put o.dst (.tuple #[.int .u64 (addLo X Y C),.int .u64 (addHi X Y C)])) w):Ext3 Tryz.prog 120 x y c ops Q o rest a w:=
  add64_ext Tryz.func120 (by kernel_rfl) (by kernel_rfl) (by kernel_rfl) (by kernel_rfl) hx hy hc x0 y0 c0 c1 hK

theorem addLo_nat (x y c:Nat):addLo (x:Int) y c=(((x+y+c)%Qb:Nat):Int):=by unfold addLo Qb; omega
theorem addHi_nat (x y c:Nat):addHi (x:Int) y c=(((x+y+c)/Qb:Nat):Int):=by unfold addHi Qb; omega
theorem addLo_nat0 (x c:Nat):addLo (x:Int) 0 c=(((x+0+c)%Qb:Nat):Int):=addLo_nat x 0 c
theorem addHi_nat0 (x c:Nat):addHi (x:Int) 0 c=(((x+0+c)/Qb:Nat):Int):=addHi_nat x 0 c
theorem carry_le {x y c:Nat} (hx:x<Qb) (hy:y<Qb) (hc:c≤1):(x+y+c)/Qb≤1:=by unfold Qb at *; omega

theorem plus_round {x y o:List Nat} {i cr vx vy:Nat} {g:Nat} {wr w0:World} (hol:o.length=i) (hlt:i<x.length) (wx:Wf Qb x) (wy:Wf Qb y) (hcr:cr≤1) (hwo:Wf Qb o)
    (hx:x[i]?=some vx) (hy:y.getD i 0=vy) (hr:Row wr .u64 127 g (o++List.replicate (x.length+1-i) 0)) (hbl:Below w0.heap.size w0 wr) (hg:w0.heap.size≤g)
    (hval:Qj Qb o+Qb^i*cr=Qj Qb (x.take i)+Qj Qb (y.take i)):
    ∃(cr':Nat) (o':List Nat),((vx+vy+cr)/Qb=cr')∧cr'≤1∧o'.length=i+1∧Wf Qb o' ∧
      Row (wr.setCell ⟨g,i,none⟩ (.int .u64 (((vx+vy+cr)%Qb:Nat):Int))) .u64 127 g (o'++List.replicate (x.length+1-(i+1)) 0) ∧
      Below w0.heap.size w0 (wr.setCell ⟨g,i,none⟩ (.int .u64 (((vx+vy+cr)%Qb:Nat):Int)))∧Qj Qb o'+Qb^(i+1)*cr'=Qj Qb (x.take (i+1))+Qj Qb (y.take (i+1)):=by
  have hvx:vx<Qb:=wx _ (List.mem_of_getElem? hx)
  have hvy:vy<Qb:=by
    rw[← hy,List.getD_eq_getElem?_getD]
    cases h:y[i]? with
    |none=>simp[Qb]
    |some z=>exact wy _ (List.mem_of_getElem? h)
  refine⟨_,o++[(vx+vy+cr)%Qb],rfl,carry_le hvx hvy hcr,by simp[hol],hwo.append (Wf.cons (Nat.mod_lt _ (by unfold Qb; omega)) (Wf.nil _)),?_,hbl.setCell hg _,?_⟩
  · have h:=hr.set i ((vx+vy+cr)%Qb)
    rw[show x.length+1-i=(x.length+1-(i+1))+1 by omega,List.replicate_succ,U2 hol]at h
    rw[List.append_assoc]
    exact h
  · exact sum_step hol hval (Z6 hx) (by rw[Ku,hy]) (by have:=Nat.mod_add_div (vx+vy+cr) Qb; omega)

theorem plus_top {x y o:List Nat} {cr:Nat} (hx:Top x) (wx:Wf Qb x) (wo:Wf Qb o) (hol:o.length=x.length) (hxl:2≤Qb) (hval:Qj Qb o+Qb^o.length*cr=Qj Qb x+Qj Qb y):cr=0→Top o:=by
  rintro rfl
  refine top_of_pow wo ?_
  by_cases h:o=[]
  · exact .inl h
  · refine .inr ?_
    have hd:=Qcj hxl wx hx
    have hpos:0<Qj Qb x:=by
      rcases Nat.eq_zero_or_pos (Qj Qb x)with h0|h0
      · rw[h0,Yt]at hd
        rw[← hd]at hol
        exact absurd (List.eq_nil_of_length_eq_zero hol) h
      · exact h0
    have:=Qdp hxl hpos
    rw[hd]at this
    rw[hol]
    simp at hval
    omega

set_option maxHeartbeats 400000 in
theorem plus_num (w:World) (v1 v2:Value) (m n:Nat) (h1:Num .u64 Qb w v1 m) (h2:Num .u64 Qb w v2 n) {j k:Nat} (hj:Bd j m) (hk:Bd k n) (hj1:j≤1000000000) (hk1:k≤1000000000):
    Calls Tryz.prog 100 #[v1,v2] w (Jk .u64 Qb w (m+n)):=by
  obtain⟨A,c,rfl,ha⟩:=h1
  obtain⟨B,d,rfl,hb⟩:=h2
  have hla:=len64 hj
  have hlb:=len64 hk
  have hv:Qj Qb (digs Qb m)+Qj Qb (digs Qb n)=m+n:=by rw[Yo Qu,Yo Qu]
  have wa:=Y1 Qu m
  have wb:=Y1 Qu n
  have ta:=Qaq Qu m
  have tb:=Qaq Qu n
  clear hj hk
  generalize digs Qb m=a at *
  generalize digs Qb n=b at *
  generalize m+n=s at *
  go_enter Tryz.func100,Tryz.ntmps100
  go_upto_if 14 with fail
  go_cut [0,1] (fun v0 v1 w'=>w'=w∧∃X cx x Y cy y,v0=.slice X x.length cx∧v1=.slice Y y.length cy∧Rd w .u64 X cx x∧Rd w .u64 Y cy y∧Wf Qb x∧Wf Qb y∧Top x∧y.length≤x.length∧x.length≤1000000000∧Qj Qb x+Qj Qb y=s)
  case first=>
    by_cases h:a.length<b.length
    · go_wp2
      go_meet
      case rel=>exact⟨rfl,B,d,b,A,c,a,rfl,rfl,hb,ha,wb,wa,tb,by omega,by omega,by omega⟩
    · go_wp2
      go_meet
      case rel=>exact⟨rfl,A,c,a,B,d,b,rfl,rfl,ha,hb,wa,wb,ta,by omega,by omega,hv⟩
  case rest=>
    obtain⟨rfl,X,cx,x,Y,cy,y,rfl,rfl,hx,hy,wx,wy,tx,hyx,hx1,hs⟩:=hcut
    clear ha hb wa wb ta tb hla hlb hv
    have HS:=Lib.hid hs
    clear hs
    have hlx:=hx.len
    have hly:=hy.len
    go_wp2_with (at_make; refine Z2 _ rfl _ _ _ rfl .u64 127 Tryz.underlying36 Up _ _ rfl rfl (by omega) (by omega) (by omega) ?_; intro w1 hrow hbel hsz)
    go_loopw [6,25] (fun s6 s25 wr=>∃(i cr:Nat) (o:List Nat),i≤x.length∧s25=.int .i64 i∧s6=.int .u64 cr∧cr≤1∧o.length=i∧Wf Qb o∧Row wr .u64 127 wc.heap.size (o++List.replicate (x.length+1-i) 0)∧Below wc.heap.size wc wr∧Qj Qb o+Qb^i*cr=Qj Qb (x.take i)+Qj Qb (y.take i))
      (fun _ s25 _=>x.length-(intOf s25).toNat)
    case atStart=>exact⟨0,0,[],by omega,rfl,rfl,by omega,rfl,Wf.nil _,by simpa using hrow,hbel,by simp[Qj]⟩
    case round=>
      obtain⟨i,cr,o,hi,rfl,rfl,hcr,hol,hwo,hr,hbl,hval⟩:=hrel
      have HVAL:=Lib.hid hval
      have HOL:=Lib.hid hol
      clear hval hol hrow hbel hsz
      by_cases hlt:i<x.length
      · obtain⟨bx,ox,vx,rfl,hcx,HVX⟩:=(hx.below hbl).get hlt
        obtain⟨vo,hco,HVO⟩:=hr.get (i:=i) (by have:=HOL.out; simp; omega)
        have hcf:=hr.frozen i
        by_cases hy1:i<y.length
        · obtain⟨by_,oy,vy,rfl,hcy,HVY⟩:=(hy.below hbl).get hy1
          go_wp2_with ((with_reducible refine Vo 120 rfl rfl ?_); refine add64_at rfl rfl rfl (by omega) (by omega) (by omega) (by omega) ?_)
          go_roundw
          case rel=>
            rw[addLo_nat,addHi_nat]
            obtain⟨cr',o',e,r⟩:=plus_round (vy:=vy) HOL.out hlt wx wy hcr hwo HVX.out (by rw[List.getD_eq_getElem?_getD,HVY.out]; rfl) hr hbl (Nat.le_refl _) HVAL.out
            exact⟨i+1,cr',o',by omega,by go_num,by rw[e],r⟩
          case measure=>simp[intOf]; omega
        · go_wp2_with ((with_reducible refine Vo 120 rfl rfl ?_); refine add64_at rfl rfl rfl (by omega) (by omega) (by omega) (by omega) ?_)
          go_roundw
          case rel=>
            rw[addLo_nat0,addHi_nat0]
            obtain⟨cr',o',e,r⟩:=plus_round (vy:=0) HOL.out hlt wx wy hcr hwo HVX.out (by rw[List.getD_eq_getElem?_getD,List.getElem?_eq_none (by omega)]; rfl) hr hbl (Nat.le_refl _) HVAL.out
            exact⟨i+1,cr',o',by omega,by go_num,by rw[e],r⟩
          case measure=>simp[intOf]; omega
      · obtain rfl:i=x.length:=by omega
        have hfin:Qj Qb o+Qb^o.length*cr=s:=by
          have:=HVAL.out
          rw[HOL.out,this,List.take_of_length_le (Nat.le_refl _),List.take_of_length_le (by omega)]; exact HS.out
        have HF:=Lib.hid hfin
        clear hfin
        rw[show x.length+1-x.length=1 by omega,show List.replicate 1 0=[0]from rfl]at hr
        rcases Nat.eq_zero_or_pos cr with rfl|hc0
        · go_wp2
          go_ret
          refine⟨_,rfl,?_,hbl⟩
          have h:=hr.rd (n:=x.length) (c:=x.length+1) (by simp; have:=HOL.out; omega) (by omega) (by unfold maxLen; omega)
          rw[← HOL.out,List.take_left]at h
          have hF:=HF.out
          rw[Nat.mul_zero,Nat.add_zero]at hF
          rw[← hF,← HOL.out]
          exact Num.of Qu h rfl hwo (plus_top (y:=y) tx wx hwo HOL.out Qu (by have h1:=HF.out; have h2:=HS.out; omega) rfl)
        · have hA:=hr.keep ((Below.refl _ _).alloc (Nat.le_refl _) (.cells #[.int .u64 (cr:Int)] 127))
          obtain⟨vo,hco,_⟩:=hA.get (i:=x.length) (by simp; have:=HOL.out; omega)
          have hcf:=hA.frozen x.length
          go_wp2
          go_ret
          refine⟨_,rfl,?_,(hbl.alloc hbl.size _).setCell (Nat.le_refl _) _⟩
          have hR:=hA.set x.length cr
          rw[U2 HOL.out]at hR
          have hF:=HF.out
          rw[← Qav]at hF
          rw[← hF]
          have hl:(o++[cr]).length=x.length+1:=by simp[HOL.out]
          exact Num.of Qu (hR.rd_all (by omega) (by unfold maxLen; omega)) hl (hwo.append (Wf.cons (by unfold Qb; omega) (Wf.nil _))) (by unfold Top; simp; omega)
end Wx

namespace Wx

def Xs (n:Nat):Nat:=if n=0 then 0 else Nat.log2 n+1
theorem Qam:Xs 0=0:=rfl
theorem Uy {n:Nat} (h:0<n):0<Xs n:=by unfold Xs; rw[if_neg (by omega)]; omega
theorem Qc0 (n:Nat):n<2^Xs n:=by
  unfold Xs
  split
  · next h=>subst h; decide
  · exact Nat.lt_log2_self
theorem Qaz {n:Nat} (h:0<n):2^(Xs n-1)≤n:=by
  unfold Xs
  rw[if_neg (by omega)]
  exact Nat.log2_self_le (by omega)
theorem Qe1 {n k:Nat} (h1:2^k≤n) (h2:n<2^(k+1)):Xs n=k+1:=by
  have h0:0<n:=Nat.lt_of_lt_of_le (Nat.two_pow_pos k) h1
  have a1:=Qc0 n
  have a2:=Qaz h0
  have a3:=Uy h0
  have b1:k<Xs n:=by
    rcases Nat.lt_or_ge k (Xs n)with h|h
    · exact h
    · have:=Nat.pow_le_pow_right (show 0<2 by omega) h; omega
  have b2:Xs n-1<k+1:=by
    rcases Nat.lt_or_ge (Xs n-1) (k+1)with h|h
    · exact h
    · have:=Nat.pow_le_pow_right (show 0<2 by omega) h; omega
  omega
theorem nbits_half {n:Nat} (h:0<n):Xs n=Xs (n/2)+1:=by
  by_cases h1:n=1
  · subst h1; decide
  · have h2:0<n/2:=by omega
    have a:=Qc0 (n/2)
    have b:=Qaz h2
    have c:=Uy h2
    have e:=Qe1 (n:=n) (k:=Xs (n/2)) (by
      have:2^Xs (n/2)=2*2^(Xs (n/2)-1):=by
        rw[← Nat.pow_succ']; congr 1; omega
      omega) (by rw[Nat.pow_succ]; omega)
    exact e
theorem nbits_mul_add {t m low k:Nat} (ht:0<t) (hl:low<2^k) (hm:m=low+2^k*t):Xs m=k+Xs t:=by
  have a:=Qc0 t
  have b:=Qaz ht
  have c:=Uy ht
  have e:=Qe1 (n:=m) (k:=k+(Xs t-1)) (by
    rw[Nat.pow_add,hm]
    have:=Nat.mul_le_mul_left (2^k) b
    omega) (by
    rw[show k+(Xs t-1)+1=k+Xs t by omega,Nat.pow_add,hm]
    have:=Nat.mul_le_mul_left (2^k) (Nat.succ_le_of_lt a)
    rw[Nat.mul_succ]at this
    omega)
  omega
theorem Qcv {j n:Nat} (h:Bd j n):Xs n≤j:=by
  rcases Nat.eq_zero_or_pos n with rfl|h0
  · rw[Qam]; omega
  · have a:=Qaz h0
    have b:=Uy h0
    rcases Nat.lt_or_ge j (Xs n)with h'|h'
    · have:=Nat.pow_le_pow_right (show 0<2 by omega) (show j≤Xs n-1 by omega)
      unfold Bd at h
      omega
    · exact h'
theorem nbits_lt_of {m n:Nat} (h:Xs m<Xs n):m<n:=by
  have a:=Qc0 m
  have b:0<n:=by
    rcases Nat.eq_zero_or_pos n with rfl|h0
    · rw[Qam]at h; omega
    · exact h0
  have c:=Qaz b
  have:=Nat.pow_le_pow_right (show 0<2 by omega) (show Xs m≤Xs n-1 by omega)
  omega
theorem nbits_start {a b:Nat} (hb:0<b):a<b*2^(Xs a-Xs b+1):=by
  have h1:=Qc0 a
  have h2:=Qaz hb
  have h3:=Uy hb
  have h4:2^Xs a≤2^((Xs b-1)+(Xs a-Xs b+1)):=Nat.pow_le_pow_right (by omega) (by omega)
  rw[Nat.pow_add]at h4
  have h5:=Nat.mul_le_mul_right (2^(Xs a-Xs b+1)) h2
  omega
theorem ldiv_step {A b Q a i:Nat} (hA:A=Q*b+a) (ha:a<b*2^(i+1)) (hQ:2^(i+1) ∣ Q):
    (b*2^i≤a→A=(Q+2^i)*b+(a-b*2^i)∧a-b*2^i<b*2^i∧2^i ∣ Q+2^i)∧(a<b*2^i→2^i ∣ Q):=by
  have hd:2^i ∣ Q:=Nat.dvd_trans (Nat.pow_dvd_pow 2 (by omega)) hQ
  refine⟨fun h=>⟨?_,?_,Nat.dvd_add hd (Nat.dvd_refl _)⟩,fun _=>hd⟩
  · rw[Nat.add_mul,Nat.mul_comm (2^i) b]; omega
  · rw[Nat.pow_succ,← Nat.mul_assoc]at ha; omega
theorem half_pow (b i:Nat):b*2^(i+1)/2=b*2^i:=by
  rw[Nat.pow_succ,← Nat.mul_assoc,Nat.mul_div_cancel _ (by omega)]
theorem bit_room {x k:Nat} (hx:x<4294967296) (hk:k<32) (hd:2^(k+1) ∣ x):x+2^k<4294967296:=by
  obtain⟨y,rfl⟩:=hd
  have e:4294967296=2^(k+1)*2^(31-k):=by rw[← Nat.pow_add,show k+1+(31-k)=32 by omega]
  have h1:y<2^(31-k):=by
    rw[e]at hx
    exact Nat.lt_of_mul_lt_mul_left hx
  have h2:=Nat.mul_le_mul_left (2^(k+1)) (Nat.succ_le_of_lt h1)
  rw[Nat.mul_succ,← e]at h2
  have h3:2^k<2^(k+1):=Nat.pow_lt_pow_right (by omega) (by omega)
  omega
theorem word_dvd {l:List Nat} {i v:Nat} (hw:Wf 4294967296 l) (hd:2^(i+1) ∣ Qj 4294967296 l) (h:l[i/32]?=some v):2^(i%32+1) ∣ v:=by
  obtain⟨hi,hv⟩:=List.getElem?_eq_some_iff.1 h
  have e:=Zs 4294967296 l (i/32) (by omega)
  rw[Qay 4294967296 l (i/32) hi,hv]at e
  have hp:(4294967296:Nat)^(i/32)=2^(32*(i/32)):=by rw[Nat.pow_mul]
  have hi':i+1=32*(i/32)+(i%32+1):=by omega
  have hlow:=K4 (hw.take (i/32))
  rw[List.length_take,Nat.min_eq_left (by omega),hp]at hlow
  rw[hp]at e
  have h1:2^(32*(i/32)) ∣ Qj 4294967296 l:=Nat.dvd_trans (Nat.pow_dvd_pow 2 (by omega)) hd
  have h0:Qj 4294967296 (l.take (i/32))=0:=by
    rw[e]at h1
    have:=(Nat.dvd_add_left (Nat.dvd_mul_right _ _)).1 h1
    exact Nat.eq_zero_of_dvd_of_lt this hlow
  rw[e,h0,Nat.zero_add,hi',Nat.pow_add]at hd
  have h2:=Nat.dvd_of_mul_dvd_mul_left (Nat.two_pow_pos _) hd
  refine(Nat.dvd_add_left (Nat.dvd_trans ?_ (Nat.dvd_mul_right _ _))).1 h2
  have:(4294967296:Nat)=2^32:=by decide
  rw[this]
  exact Nat.pow_dvd_pow 2 (by omega)
theorem set_bit {l:List Nat} {i v:Nat} (h:l[i/32]?=some v):Qj 4294967296 (l.set (i/32) (v+2^(i%32)))=Qj 4294967296 l+2^i:=by
  have h1:=Qb6 (b:=4294967296) h (v+2^(i%32))
  have hp:(4294967296:Nat)^(i/32)=2^(32*(i/32)):=by rw[Nat.pow_mul]
  have e:2^i=2^(32*(i/32))*2^(i%32):=by rw[← Nat.pow_add]; congr 1; omega
  rw[Nat.mul_add,hp,← e]at h1
  omega
theorem half_step {x d D:Nat} (hd:D%2=d):(x+4294967296*D)/2=(x/2+2147483648*d)+4294967296*(D/2):=by omega
theorem dec_step {A r k:Nat} (hk:0<k):(A*10^k+r)%10=r%10∧(A*10^k+r)/10=A*10^(k-1)+r/10:=by
  obtain⟨j,rfl⟩:∃j,k=j+1:=⟨k-1,by omega⟩
  rw[Nat.pow_succ,← Nat.mul_assoc,Nat.add_sub_cancel]
  omega
theorem rest_step {r k:Nat} (hk:0<k) (h:r<10^k):r/10<10^(k-1):=by
  obtain⟨j,rfl⟩:∃j,k=j+1:=⟨k-1,by omega⟩
  rw[Nat.pow_succ]at h
  rw[Nat.add_sub_cancel]
  omega
end Wx

namespace Wx
open Go Go.RowKit Go.Proofs

theorem Q4:Ty Tryz.prog 38 true 3:=⟨fun _=>by kernel_rfl,fun _=>by kernel_rfl,by decide⟩
theorem Ja:∀w,(zeroValue 38).run Tryz.prog w=.ok (.agg #[.bool false,.slice none 0 0,.slice none 0 0]) w:=fun _=>by kernel_rfl
theorem Qd9:BuildTy Tryz.prog 38 #[(0,1),(1,1),(2,1)] [.bool false,.slice none 0 0,.slice none 0 0]:=fun _=>by kernel_rfl
theorem Qaj:∀b o w,(Instr.fieldAt 38 (.pointer (some ⟨b,o,none⟩)) 0).run Tryz.prog w=.ok (.pointer (some ⟨b,o+0,none⟩)) w:=fun _ _ _=>by kernel_rfl
theorem fa_Ratio_1:∀b o w,(Instr.fieldAt 38 (.pointer (some ⟨b,o,none⟩)) 1).run Tryz.prog w=.ok (.pointer (some ⟨b,o+1,none⟩)) w:=fun _ _ _=>by kernel_rfl
theorem fa_Ratio_2:∀b o w,(Instr.fieldAt 38 (.pointer (some ⟨b,o,none⟩)) 2).run Tryz.prog w=.ok (.pointer (some ⟨b,o+2,none⟩)) w:=fun _ _ _=>by kernel_rfl
theorem Qb0:Ty Tryz.prog 82 true 2:=⟨fun _=>by kernel_rfl,fun _=>by kernel_rfl,by decide⟩
theorem zv_Frac:∀w,(zeroValue 82).run Tryz.prog w=.ok (.agg #[.int .i64 0,.int .i64 0]) w:=fun _=>by kernel_rfl
theorem fa_Frac_0:∀b o w,(Instr.fieldAt 82 (.pointer (some ⟨b,o,none⟩)) 0).run Tryz.prog w=.ok (.pointer (some ⟨b,o+0,none⟩)) w:=fun _ _ _=>by kernel_rfl
theorem fa_Frac_1:∀b o w,(Instr.fieldAt 82 (.pointer (some ⟨b,o,none⟩)) 1).run Tryz.prog w=.ok (.pointer (some ⟨b,o+1,none⟩)) w:=fun _ _ _=>by kernel_rfl
theorem ty_int:Ty Tryz.prog 3 false 1:=⟨fun _=>by kernel_rfl,fun _=>by kernel_rfl,by decide⟩
theorem ty_int64:Ty Tryz.prog 2 false 1:=⟨fun _=>by kernel_rfl,fun _=>by kernel_rfl,by decide⟩
theorem Vl:Ty Tryz.prog 4 false 1:=⟨fun _=>by kernel_rfl,fun _=>by kernel_rfl,by decide⟩
theorem Yw:Ty Tryz.prog 42 true 3:=⟨fun _=>by kernel_rfl,fun _=>by kernel_rfl,by decide⟩
theorem zv_R:∀w,(zeroValue 42).run Tryz.prog w=.ok (.agg #[.bool false,.slice none 0 0,.slice none 0 0]) w:=fun _=>by kernel_rfl
theorem fa_R_0:∀b o w,(Instr.fieldAt 42 (.pointer (some ⟨b,o,none⟩)) 0).run Tryz.prog w=.ok (.pointer (some ⟨b,o+0,none⟩)) w:=fun _ _ _=>by kernel_rfl
theorem fa_R_1:∀b o w,(Instr.fieldAt 42 (.pointer (some ⟨b,o,none⟩)) 1).run Tryz.prog w=.ok (.pointer (some ⟨b,o+1,none⟩)) w:=fun _ _ _=>by kernel_rfl
theorem Qd3:Ty Tryz.prog 36 false 1:=⟨fun _=>by kernel_rfl,fun _=>by kernel_rfl,by decide⟩
theorem Xk:SlTy Tryz.prog 39 38 3:=⟨by kernel_rfl,fun _=>by kernel_rfl⟩
theorem Q8:SlTy Tryz.prog 25 39 1:=⟨by kernel_rfl,fun _=>by kernel_rfl⟩
end Wx

namespace Wx
open Go Go.RowKit Go.Proofs

def Xe (n:Nat):Qm:=fun w v=>Num .u64 Qb w v n
theorem Kz (n:Nat):Zt (Xe n):=fun _ _ _ hM h=>Qb8 hM (.inl rfl) h
theorem fits_num (n:Nat):Jg 1 false (Xe n):=by
  rintro w v ⟨A,c,rfl,_⟩
  refine⟨[_],rfl,rfl,rfl,?_⟩
  intro u hu
  simp at hu
  subst hu
  exact⟨J3 _ _ _,rfl⟩
def Yp (q:Rat):List Fd:=[⟨false,1,pB (decide (q.num<0))⟩,⟨false,1,Xe q.num.natAbs⟩,⟨false,1,Xe (Qr q.den)⟩]
theorem rat_S (q:Rat):∀w v,Qo q w v→pS (Yp q) w v:=by
  rintro w v ⟨vn,vd,rfl,h1,h2⟩
  exact pS_of' (cs:=[.bool (decide (q.num<0)),vn,vd]) ⟨by simp,rfl,by simp,h1,by simp,h2,rfl⟩
theorem fits_ratS (q:Rat):Jg 3 true (pS (Yp q)):=fits_s (fs:=Yp q) ⟨fits_bool _,fits_num _,fits_num _,trivial⟩ rfl
theorem ret_num {w:World} {n:Nat} {e:Ending} {w':World} (h:Jk .u64 Qb w n e w'):Kh (Xe n) w e w':=h
theorem c_lcmp (m n:Nat):∀w v1 v2,Xe m w v1→Xe n w v2→Calls Tryz.prog 79 #[v1,v2] w (Kh (pI (Xy m n)) w):=fun w v1 v2 h1 h2=>(Qdw w v1 v2 m n h1 h2).mono fun _ _ h=>⟨_,h.1,rfl,h.2⟩
theorem c_plus {m n j k:Nat} (hj:Bd j m) (hk:Bd k n) (hj1:j≤1000000000) (hk1:k≤1000000000):∀w v1 v2,Xe m w v1→Xe n w v2→Calls Tryz.prog 100 #[v1,v2] w (Kh (Xe (m+n)) w):=fun w v1 v2 h1 h2=>(plus_num w v1 v2 m n h1 h2 hj hk hj1 hk1).mono fun _ _=>ret_num
theorem c_under {d:Nat} (hd:0<d):∀w v1,Xe (Qr d) w v1→Calls Tryz.prog 97 #[v1] w (Kh (Xe d) w):=fun w v1 h1=>(W9 w v1 d h1 hd).mono fun _ _=>ret_num
section
variable {P:Program} {ops:Array Oper} {ms:List Nat} {c:Cfg} {V:List Vr} {A:List Al} {G:List Ent} {i:Nat} {L:Nat→Bool} {β:Nat→Nat→Prop} {a:Act} {w:World} {o:Oper}
variable {d:Nat} {x y z:Operand} {ty:TypeId} {pos:String} {aft:Array Edge}
theorem op_loadEq {T:TypeId} {v:Value} (h:Has ms G i x (Yb 1 false (Qp v))) (ht:Ty P T false 1) (hp:Post G i (Qp v)):X5 P ops ms c V A G i ⟨some d,.load T x,ty,pos,aft,none⟩:=
  Qaw rfl rfl rfl rfl h hp fun ρ w h=>by
    obtain⟨b,o,cs,e,hl,hc,hv⟩:=h
    refine⟨Xf false cs,?_,fun _ _=>hv⟩
    show(do pure (Next.value (← Instr.loadAt T (ρ x)))).run P w=_
    rw[e,Sem.run_bind,Wt ht hc hl]
    rfl
end
end Wx
