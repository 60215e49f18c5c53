import Derived.Deep.AppendSrc
import Derived.Deep.Upon
import Derived.Test.YtikkgpljpglnbaaGreatCRMSemRow
namespace Wx
open Go Go.RowKit Go.Proofs
theorem zb (a b:Bool) (m n:Nat):sg (a != b) (m*n)=sg a m*sg b n:=by
 cases a<;>cases b<;>simp[sg,Int.mul_neg,Int.neg_mul]
theorem Aq (x y:Rat):x*y=dW (decide (x.num<0) != decide (y.num<0)) (x.num.natAbs*y.num.natAbs) (x.den*y.den):=by
 unfold dW
 rw[Rat.mul_def',zb,AO,AO]
theorem F0 (y:Rat) (hy:y.num≠0):y⁻¹=dW (decide (y.num<0)) y.den y.num.natAbs:=by
 rw[Rat.inv_def]
 generalize y.num=z at *
 generalize y.den=d
 unfold dW
 match z,hy with
 |Int.ofNat k,hy=>
  have:¬((Int.ofNat k)<0):=by have:=Int.natCast_nonneg k; exact Int.not_lt.2 this
  rw[decide_eq_false this]
  exact Rat.divInt_ofNat _ _
 |Int.negSucc k,hy=>
  have:(Int.negSucc k)<0:=Int.negSucc_lt_zero k
  rw[decide_eq_true this]
  show Rat.normalize (-(d:Int)) (k+1) (by omega)=mkRat (-(d:Int)) (k+1)
  rw[Rat.mkRat_def,dif_neg (by omega)]
theorem zQ (x y:Rat) (hy:y.num≠0):x/y=dW (decide (x.num<0) != decide (y.num<0)) (x.num.natAbs*y.den) (x.den*y.num.natAbs):=by
 rw[Rat.div_def,F0 y hy]
 conv=>lhs; rw[<-Rat.mkRat_self x]
 unfold dW
 rw[Rat.mkRat_mul_mkRat,zb,AO]
theorem Em (z:Int) (d:Nat):z*d=sg (decide (z<0)) (z.natAbs*d):=by
 have h:=zb (decide (z<0)) false z.natAbs d
 rw[show(decide (z<0) != false)=decide (z<0) by cases decide (z<0)<;>rfl,AO]at h
 rw[h]; rfl
theorem tS (x y:Rat):x+y=mkRat (sg (decide (x.num<0)) (x.num.natAbs*y.den)+sg (decide (y.num<0)) (y.num.natAbs*x.den)) (x.den*y.den):=by
 rw[Rat.add_def',Em,Em]
theorem Kt (a:Bool) (m n:Nat):sg a m+sg a n=sg a (m+n):=by cases a<;>simp[sg]; omega
theorem GB (a:Bool) {m n:Nat} (h:n<=m):sg a m+sg (!a) n=sg a (m-n):=by cases a<;>simp[sg]<;>omega
theorem GC (a:Bool) {m n:Nat} (h:m<=n):sg a m+sg (!a) n=sg (!a) (n-m):=by cases a<;>simp[sg]<;>omega
theorem sJ {a b:Bool} (h:¬a=b):b=!a:=by cases a<;>cases b<;>simp_all
theorem add_same (x y:Rat) (h:decide (x.num<0)=decide (y.num<0)):x+y=dW (decide (x.num<0)) (x.num.natAbs*y.den+y.num.natAbs*x.den) (x.den*y.den):=by
 rw[tS,<-h,Kt]; rfl
theorem CC (x y:Rat) (h:¬decide (x.num<0)=decide (y.num<0)) (hge:y.num.natAbs*x.den<=x.num.natAbs*y.den):x+y=dW (decide (x.num<0)) (x.num.natAbs*y.den-y.num.natAbs*x.den) (x.den*y.den):=by
 rw[tS,sJ h,GB _ hge]; rfl
theorem CD (x y:Rat) (h:¬decide (x.num<0)=decide (y.num<0)) (hge:x.num.natAbs*y.den<=y.num.natAbs*x.den):x+y=dW (decide (y.num<0)) (y.num.natAbs*x.den-x.num.natAbs*y.den) (x.den*y.den):=by
 rw[tS,sJ h,GC _ hge]; rfl
variable {j k:Nat} {x y:Rat}
theorem fo.mul (h:fo j x) (g:fo k y):fo (j+k) (x*y):=by
 rw[Aq]
 exact mN (Nat.mul_pos x.den_pos y.den_pos) (h.1.mul g.1) (h.2.mul g.2)
theorem fo.div (h:fo j x) (g:fo k y) (hy:y.num≠0):fo (j+k) (x/y):=by
 rw[zQ _ _ hy]
 exact mN (Nat.mul_pos x.den_pos (by omega)) (h.1.mul g.2) (h.2.mul g.1)
end Wx

namespace Wx
end Wx

namespace Wx
open Go Go.RowKit Go.Proofs
def QU:Nat:=4294967296
end Wx

namespace Wx
open Go Go.RowKit Go.Proofs
end Wx

namespace Wx
open Go Go.RowKit Go.Proofs
end Wx

namespace Wx
open Go Go.RowKit Go.Proofs
end Wx

namespace Wx
open Go Go.RowKit Go.Proofs
@[irreducible] def npLo (x y u c : Nat) : Nat := (u + c + x * y) % 4294967296
@[irreducible] def npHi (x y u c : Nat) : Nat := (u + c + x * y) / 4294967296
end Wx

namespace Wx
open Go Go.RowKit Go.Proofs
end Wx

namespace Wx
open Go Go.RowKit Go.Proofs
end Wx

namespace Wx
open Go Go.RowKit Go.Proofs
@[irreducible] def bdQ (r x d : Nat) : Nat := (r * 4294967296 + x) / d
@[irreducible] def bdR (r x d : Nat) : Nat := (r * 4294967296 + x) % d
end Wx

namespace Wx
open Go Go.RowKit Go.Proofs
end Wx

namespace Wx
open Go Go.RowKit Go.Proofs
end Wx

namespace Wx
open Go Go.RowKit Go.Proofs
end Wx

namespace Wx
open Go Go.RowKit Go.Proofs
end Wx

namespace Wx
open Go Go.RowKit Go.Proofs
end Wx

namespace Wx
open Go Go.RowKit Go.Proofs
def Lb (w:World) (v:Value) (q:Rat):Prop:=∃vn vd,v=.agg #[.bool (decide (q.num<0)),vn,vd]/\cz .u32 QU w vn q.num.natAbs/\cz .u32 QU w vd q.den
end Wx

namespace Wx
open Go Go.RowKit Go.Proofs
def J8 (q:Rat):Pred:=λw v=>Lb w v q
theorem jS (q:Rat):av (J8 q):=by
 rintro M w v hM ⟨vn,vd,rfl,h1,h2⟩ w' he
 exact⟨vn,vd,rfl,mB hM (.inr rfl) h1 w' he,mB hM (.inr rfl) h2 w' he⟩
theorem vT (q:Rat):Fits 3 true (J8 q):=by
 rintro w v ⟨vn,vd,rfl,h1,h2⟩
 obtain⟨A,c,rfl,_⟩:=h1
 obtain⟨B,d,rfl,_⟩:=h2
 refine⟨[_,_,_],rfl,rfl,rfl,?_⟩
 intro u hu
 simp at hu
 rcases hu with rfl|rfl|rfl
 ·exact⟨qX _,rfl⟩
 ·exact⟨eP _ _ _,rfl⟩
 ·exact⟨eP _ _ _,rfl⟩
end Wx

namespace Wx
open Go Go.RowKit
section
variable {P:Program} {ops:Array Oper} {ms:List Nat} {c:cF} {V:List Vr} {A:List Al} {G:List aQ} {i:Nat} {L:Nat->Bool} {β:Nat->Nat->Prop} {a:Act} {w:World} {o:Oper}{d:Nat} {x y z:Operand} {ty:TypeId} {pos:String} {aI:Array Edge}
theorem aT.yY (h:aT c V A G L β a w) (hd:kO ms i L) (hwf:ju c.N ops V A G i o) {y:Vr} (hy:y∈V) (yy:y.born=some i) (hst:ek o.op=false) (JH:gW o.op=false) (eB:(A.all λp=>p.var != y.id||p.tag.any λj=>(ms.getD j 0).testBit i)=true)
  {v':Value} {w':World} {B':Nat->Prop} (e0:w'.os=w.os/\w'.tape=w.tape/\w'.output=w.output/\w.heap.size<=w'.heap.size)
  (e1:∀k,k<c.w0.heap.size->¬c.fH k->w'.heap[k]?=w.heap[k]?)
  (e2:∀z,z∈V->live L z=true->z.dead≠some i->∀k,β z.id k->w'.heap[k]?=w.heap[k]?/\¬B' k)
  (e3:Ext (own c V L β) w w') (e4:∀z,z∈V->live L z=true->z.dead≠some i->Ext (minus (own c V L β) (β z.id)) w w')
  (e5:∀k j,k<w.heap.size->B' k->y.lo<=j->own c V L β k j)
  (SI:∀β',β' y.id=B'->(∀k j,k<w.heap.size->own c V (upd L i) β' k j->own c V L β k j)->(∀k j,own c V (upd L i) β' k j->(B' k/\y.lo<=j)\/c.M0 k j\/∃z,z∈V/\live L z=true/\z.dead≠some i/\β z.id k)->jz (own c V (upd L i) β') c (upd L i) β' (a.put o.dst v') w' y)
  (hG:∀β',β' y.id=B'->(∀k j,k<w.heap.size->own c V (upd L i) β' k j->own c V L β k j)->(∀k j,own c V (upd L i) β' k j->(B' k/\y.lo<=j)\/c.M0 k j\/∃z,z∈V/\live L z=true/\z.dead≠some i/\β z.id k)->∀e,e∈G->e.tag=some i->aL (own c V (upd L i) β') (λw=>e.p w v') w'):
  Inv c V A G (upd L i) (a.put o.dst v') w':=by
 have oI:=hwf.v2 y hy yy
 have nV:∀z,z∈V->z.id≠y.id->z.born≠some i:=λz hz hne hb=>hne (by rw[hwf.vo z y hz hy hb yy])
 -- who RM on
 have lv:∀z,z∈V->z.id≠y.id->live (upd L i) z=true->live L z=true/\z.dead≠some i:=by
  intro z hz hne hl
  unfold live at hl ⊢
  rw[bS (nV z hz hne),Bool.and_eq_true]at hl
  obtain⟨h1,h2⟩:=jb hl.2
  exact⟨by rw[hl.1,h1]; rfl,h2⟩
 have nS:∀z,z∈V->z.id≠y.id->z.dead≠some i->o.dst≠some z.slot:=λz hz hne vY hd'=>(hwf.v1 z hz hd').elim (nV z hz hne) vY
 have AQ:∀z,z∈V->∀q,q∈z.st->q.1≠i:=λz hz q hq My=>by have:=hwf.vs z hz q hq My; rw[hst]at this; cases this
 let β':Nat->Nat->Prop:=λs=>if s=y.id then B' else β s
 have hβ:∀z,z∈V->z.id≠y.id->β' z.id=β z.id:=λz _ hne=>if_neg hne
 have KY:β' y.id=B':=if_pos rfl
 have fO:∀k j,k<w.heap.size->own c V (upd L i) β' k j->own c V L β k j:=by
  rintro k j hk (h1|⟨z,hz,h1,h2,h3⟩)
  ·exact .inl h1
  ·by_cases uo:z.id=y.id
   ·have:=hwf.vu z y hz hy uo
    subst this
    rw[KY]at h2
    exact e5 k j hk h2 h3
   ·rw[hβ z hz uo]at h2
    exact .inr ⟨z,hz,(lv z hz uo h1).1,h2,h3⟩
 have MY:∀k j,own c V (upd L i) β' k j->(B' k/\y.lo<=j)\/c.M0 k j\/∃z,z∈V/\live L z=true/\z.dead≠some i/\β z.id k:=by
  rintro k j (h1|⟨z,hz,h1,h2,h3⟩)
  ·exact .inr (.inl h1)
  ·by_cases uo:z.id=y.id
   ·have:=hwf.vu z y hz hy uo
    subst this
    rw[KY]at h2
    exact .inl ⟨h2,h3⟩
   ·rw[hβ z hz uo]at h2
    obtain⟨k1,k2⟩:=lv z hz uo h1
    exact .inr (.inr ⟨z,hz,k1,k2,h2⟩)
 have lift:∀F:World->Prop,aL (own c V L β) F w->aL (own c V (upd L i) β') F w':=λF hF w'' he=>by
  refine hF w'' ⟨Nat.le_trans e0.2.2.2 he.size,λk hk hno=>?_,λk j v hno hv=>?_⟩
  ·rw[he.block k (Nat.lt_of_lt_of_le hk e0.2.2.2) λj h'=>hno j (fO k j hk h')]
   exact e3.block k hk hno
  ·have hk:=World.block_lt_of_cell? w _ hv
   exact he.cell k j v (λh'=>hno (fO k j hk h')) (e3.cell k j v hno hv)
 have DA:∀z,z∈V->live L z=true->z.dead≠some i->∀F:World->Prop,aL (minus (own c V L β) (β z.id)) F w->aL (minus (own c V (upd L i) β') (β z.id)) F w':=λz hz hl vY F hF w'' he=>by
  have e:=e4 z hz hl vY
  refine hF w'' ⟨Nat.le_trans e0.2.2.2 he.size,λk hk hno=>?_,λk j v hno hv=>?_⟩
  ·rw[he.block k (Nat.lt_of_lt_of_le hk e0.2.2.2) λj h'=>hno j ⟨fO k j hk h'.1,h'.2⟩]
   exact e.block k hk hno
  ·have hk:=World.block_lt_of_cell? w _ hv
   exact he.cell k j v (λh'=>hno ⟨fO k j hk h'.1,h'.2⟩) (e.cell k j v hno hv)
 refine⟨β',by rw[iE]; exact h.size,by rw[put_defers]; exact h.defers,⟨e0.1.trans h.below.os,e0.2.1.trans h.below.tape,e0.2.2.1.trans h.below.output,Nat.le_trans h.below.size e0.2.2.2,λk hk hn=>(e1 k hk hn).trans (h.below.block k hk hn)⟩,h.nJ e1,?_,?_,?_,?_⟩
 ·intro z hz hl
  by_cases uo:z.id=y.id
  ·have:=hwf.vu z y hz hy uo
   subst this
   exact SI β' KY fO MY
  ·obtain⟨hl,vY⟩:=lv z hz uo hl
   exact(h.var z hz hl).keep (bT (nS z hz uo vY)) (hβ z hz uo) (λg hg=>(e2 z hz hl vY g hg).1) e0.2.2.2 lift (DA z hz hl vY) (iy (AQ z hz))
 ·intro z z' g hz Dn h1 h2 hne
  by_cases uo:z.id=y.id
  ·have Bw:z'.id≠y.id:=λe=>hne (uo.trans e.symm)
   obtain⟨h2,KQ⟩:=lv z' Dn Bw h2
   rw[uo,KY,hβ z' Dn Bw]
   exactλk1 k2=>(e2 z' Dn h2 KQ g k2).2 k1
  ·obtain⟨h1,sZ⟩:=lv z hz uo h1
   rw[hβ z hz uo]
   by_cases Bw:z'.id=y.id
   ·rw[Bw,KY]
    exactλk1 k2=>(e2 z hz h1 sZ g k1).2 k2
   ·rw[hβ z' Dn Bw]
    exact h.apart z z' g hz Dn h1 (lv z' Dn Bw h2).1 hne
 ·intro p hp hl hcd
  have hpt:p.tag≠some i:=λe=>by have:=hwf.aa p hp e; rw[JH]at this; cases this
  rw[bS hpt]at hl
  obtain⟨g,hg,hp1⟩:=h.al p hp hl hcd
  rw[bT λe=>hpt (hwf.a1 p hp e),hp1]
  have hne:p.var≠y.id:=by
   intro e
   rw[List.all_eq_true]at eB
   have h1:=eB p hp
   rw[e]at h1
   simp only[bne_self_eq_false,Bool.false_or]at h1
   cases ht:p.tag with
   |none=>rw[ht]at h1; simp at h1
   |some j=>
    rw[ht]at h1 hl
    have:=hd.behind j (by simpa using h1)
    simp only[on,this]at hl
    cases hl
  exact⟨g,by simpa [β',hne] using hg,rfl⟩
 ·intro e he hl hf
  obtain⟨hf,FJ⟩:=jb hf
  by_cases ht:e.tag=some i
  ·have hd':=hwf.g2 e he ht
   rw[hd',gy (by rw[h.size]; exact hwf.sz _ hd')]
   exact hG β' KY fO MY e he ht
  ·rw[bS ht]at hl
   rw[bT λhd'=>(hwf.g1 e he hd').elim ht FJ]
   exact lift _ (h.gD e he hl hf)
end
end Wx
