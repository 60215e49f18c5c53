import Derived.Deep.AppendSrc
import Derived.Deep.Upon
import Derived.Test.YtikkgpljpglnbaaGreatCRMSemRow
namespace Wx
open Go Go.RowKit Go.Proofs
theorem BB (a b:Bool) (m n:Nat):sg (a != b) (m*n)=sg a m*sg b n:=by
 cases a<;>cases b<;>simp[sg,Int.mul_neg,Int.neg_mul]
theorem CD (x y:Rat):x*y=eR (decide (x.num<0) != decide (y.num<0)) (x.num.natAbs*y.num.natAbs) (x.den*y.den):=by
 unfold eR
 rw[Rat.mul_def',BB,CV,CV]
theorem Ja (y:Rat) (hy:y.num≠0):y⁻¹=eR (decide (y.num<0)) y.den y.num.natAbs:=by
 rw[Rat.inv_def]
 generalize y.num=z at *
 generalize y.den=d
 unfold eR
 match z,hy with
 |Int.ofNat k,hy=>
  have:¬((Int.ofNat k)<0):=by have:=Int.natCast_nonneg k; exact Int.not_lt.2 this
  rw[decide_eq_false this]
  exact Rat.divInt_ofNat _ _
 |Int.negSucc k,hy=>
  have:(Int.negSucc k)<0:=Int.negSucc_lt_zero k
  rw[decide_eq_true this]
  show Rat.normalize (-(d:Int)) (k+1) (by omega)=mkRat (-(d:Int)) (k+1)
  rw[Rat.mkRat_def,dif_neg (by omega)]
theorem Cf (x y:Rat) (hy:y.num≠0):x/y=eR (decide (x.num<0) != decide (y.num<0)) (x.num.natAbs*y.den) (x.den*y.num.natAbs):=by
 rw[Rat.div_def,Ja y hy]
 conv=>lhs; rw[<-Rat.mkRat_self x]
 unfold eR
 rw[Rat.mkRat_mul_mkRat,BB,CV]
theorem GX (z:Int) (d:Nat):z*d=sg (decide (z<0)) (z.natAbs*d):=by
 have h:=BB (decide (z<0)) false z.natAbs d
 rw[show(decide (z<0) != false)=decide (z<0) by cases decide (z<0)<;>rfl,CV]at h
 rw[h]; rfl
theorem vW (x y:Rat):x+y=mkRat (sg (decide (x.num<0)) (x.num.natAbs*y.den)+sg (decide (y.num<0)) (y.num.natAbs*x.den)) (x.den*y.den):=by
 rw[Rat.add_def',GX,GX]
theorem Nd (a:Bool) (m n:Nat):sg a m+sg a n=sg a (m+n):=by cases a<;>simp[sg]; omega
theorem JM (a:Bool) {m n:Nat} (h:n<=m):sg a m+sg (!a) n=sg a (m-n):=by cases a<;>simp[sg]<;>omega
theorem JN (a:Bool) {m n:Nat} (h:m<=n):sg a m+sg (!a) n=sg (!a) (n-m):=by cases a<;>simp[sg]<;>omega
theorem uG {a b:Bool} (h:¬a=b):b=!a:=by cases a<;>cases b<;>simp_all
theorem add_same (x y:Rat) (h:decide (x.num<0)=decide (y.num<0)):x+y=eR (decide (x.num<0)) (x.num.natAbs*y.den+y.num.natAbs*x.den) (x.den*y.den):=by
 rw[vW,<-h,Nd]; rfl
theorem EM (x y:Rat) (h:¬decide (x.num<0)=decide (y.num<0)) (hge:y.num.natAbs*x.den<=x.num.natAbs*y.den):x+y=eR (decide (x.num<0)) (x.num.natAbs*y.den-y.num.natAbs*x.den) (x.den*y.den):=by
 rw[vW,uG h,JM _ hge]; rfl
theorem EN (x y:Rat) (h:¬decide (x.num<0)=decide (y.num<0)) (hge:x.num.natAbs*y.den<=y.num.natAbs*x.den):x+y=eR (decide (y.num<0)) (y.num.natAbs*x.den-x.num.natAbs*y.den) (x.den*y.den):=by
 rw[vW,uG h,JN _ hge]; rfl
variable {j k:Nat} {x y:Rat}
theorem fB.mul (h:fB j x) (g:fB k y):fB (j+k) (x*y):=by
 rw[CD]
 exact oK (Nat.mul_pos x.den_pos y.den_pos) (h.1.mul g.1) (h.2.mul g.2)
theorem fB.div (h:fB j x) (g:fB k y) (hy:y.num≠0):fB (j+k) (x/y):=by
 rw[Cf _ _ hy]
 exact oK (Nat.mul_pos x.den_pos (by omega)) (h.1.mul g.2) (h.2.mul g.1)
end Wx

namespace Wx
end Wx

namespace Wx
open Go Go.RowKit Go.Proofs
def TX:Nat:=4294967296
end Wx

namespace Wx
open Go Go.RowKit Go.Proofs
end Wx

namespace Wx
open Go Go.RowKit Go.Proofs
end Wx

namespace Wx
open Go Go.RowKit Go.Proofs
end Wx

namespace Wx
open Go Go.RowKit Go.Proofs
@[irreducible] def npLo (x y u c : Nat) : Nat := (u + c + x * y) % 4294967296
@[irreducible] def npHi (x y u c : Nat) : Nat := (u + c + x * y) / 4294967296
end Wx

namespace Wx
open Go Go.RowKit Go.Proofs
end Wx

namespace Wx
open Go Go.RowKit Go.Proofs
end Wx

namespace Wx
open Go Go.RowKit Go.Proofs
@[irreducible] def bdQ (r x d : Nat) : Nat := (r * 4294967296 + x) / d
@[irreducible] def bdR (r x d : Nat) : Nat := (r * 4294967296 + x) % d
end Wx

namespace Wx
open Go Go.RowKit Go.Proofs
end Wx

namespace Wx
open Go Go.RowKit Go.Proofs
end Wx

namespace Wx
open Go Go.RowKit Go.Proofs
end Wx

namespace Wx
open Go Go.RowKit Go.Proofs
end Wx

namespace Wx
open Go Go.RowKit Go.Proofs
end Wx

namespace Wx
open Go Go.RowKit Go.Proofs
def NY (w:World) (v:Value) (q:Rat):Prop:=∃vn vd,v=.agg #[.bool (decide (q.num<0)),vn,vd]/\cI .u32 TX w vn q.num.natAbs/\cI .u32 TX w vd q.den
end Wx

namespace Wx
open Go Go.RowKit Go.Proofs
def MR (q:Rat):Pred:=λw v=>NY w v q
theorem lA (q:Rat):aA (MR q):=by
 rintro M w v hM ⟨vn,vd,rfl,h1,h2⟩ w' he
 exact⟨vn,vd,rfl,oz hM (.inr rfl) h1 w' he,oz hM (.inr rfl) h2 w' he⟩
theorem yo (q:Rat):Fits 3 true (MR q):=by
 rintro w v ⟨vn,vd,rfl,h1,h2⟩
 obtain⟨A,c,rfl,_⟩:=h1
 obtain⟨B,d,rfl,_⟩:=h2
 refine⟨[_,_,_],rfl,rfl,rfl,?_⟩
 intro u hu
 simp at hu
 rcases hu with rfl|rfl|rfl
 ·exact⟨sW _,rfl⟩
 ·exact⟨fQ _ _ _,rfl⟩
 ·exact⟨fQ _ _ _,rfl⟩
end Wx

namespace Wx
open Go Go.RowKit
section
variable {P:Program} {ops:Array Oper} {ms:List Nat} {c:cM} {V:List Vr} {A:List Al} {G:List aV} {i:Nat} {L:Nat->Bool} {β:Nat->Nat->Prop} {a:Act} {w:World} {o:Oper}{d:Nat} {x y z:Operand} {ty:TypeId} {pos:String} {aL:Array Edge}
theorem aT.By (h:aT c V A G L β a w) (hd:mB ms i L) (hwf:kD c.N ops V A G i o) {y:Vr} (hy:y∈V) (tZ:y.born=some i) (hst:eD o.op=false) (Mn:iw o.op=false) (fC:(A.all λp=>p.var != y.id||p.tag.any λj=>(ms.getD j 0).testBit i)=true)
  {v':Value} {w':World} {B':Nat->Prop} (e0:w'.os=w.os/\w'.tape=w.tape/\w'.output=w.output/\w.heap.size<=w'.heap.size)
  (e1:∀k,k<c.w0.heap.size->¬c.gw k->w'.heap[k]?=w.heap[k]?)
  (e2:∀z,z∈V->live L z=true->z.dead≠some i->∀k,β z.id k->w'.heap[k]?=w.heap[k]?/\¬B' k)
  (e3:Ext (own c V L β) w w') (e4:∀z,z∈V->live L z=true->z.dead≠some i->Ext (minus (own c V L β) (β z.id)) w w')
  (e5:∀k j,k<w.heap.size->B' k->y.lo<=j->own c V L β k j)
  (VP:∀β',β' y.id=B'->(∀k j,k<w.heap.size->own c V (upd L i) β' k j->own c V L β k j)->(∀k j,own c V (upd L i) β' k j->(B' k/\y.lo<=j)\/c.M0 k j\/∃z,z∈V/\live L z=true/\z.dead≠some i/\β z.id k)->kL (own c V (upd L i) β') c (upd L i) β' (a.put o.dst v') w' y)
  (hG:∀β',β' y.id=B'->(∀k j,k<w.heap.size->own c V (upd L i) β' k j->own c V L β k j)->(∀k j,own c V (upd L i) β' k j->(B' k/\y.lo<=j)\/c.M0 k j\/∃z,z∈V/\live L z=true/\z.dead≠some i/\β z.id k)->∀e,e∈G->e.tag=some i->aM (own c V (upd L i) β') (λw=>e.p w v') w'):
  Inv c V A G (upd L i) (a.put o.dst v') w':=by
 have qM:=hwf.v2 y hy tZ
 have nV:∀z,z∈V->z.id≠y.id->z.born≠some i:=λz hz hne hb=>hne (by rw[hwf.vo z y hz hy hb tZ])
 -- who UK on
 have lv:∀z,z∈V->z.id≠y.id->live (upd L i) z=true->live L z=true/\z.dead≠some i:=by
  intro z hz hne hl
  unfold live at hl ⊢
  rw[bX (nV z hz hne),Bool.and_eq_true]at hl
  obtain⟨h1,h2⟩:=jW hl.2
  exact⟨by rw[hl.1,h1]; rfl,h2⟩
 have nS:∀z,z∈V->z.id≠y.id->z.dead≠some i->o.dst≠some z.slot:=λz hz hne yB hd'=>(hwf.v1 z hz hd').elim (nV z hz hne) yB
 have C2:∀z,z∈V->∀q,q∈z.st->q.1≠i:=λz hz q hq Pz=>by have:=hwf.vs z hz q hq Pz; rw[hst]at this; cases this
 let β':Nat->Nat->Prop:=λs=>if s=y.id then B' else β s
 have hβ:∀z,z∈V->z.id≠y.id->β' z.id=β z.id:=λz _ hne=>if_neg hne
 have NH:β' y.id=B':=if_pos rfl
 have gW:∀k j,k<w.heap.size->own c V (upd L i) β' k j->own c V L β k j:=by
  rintro k j hk (h1|⟨z,hz,h1,h2,h3⟩)
  ·exact .inl h1
  ·by_cases yI:z.id=y.id
   ·have:=hwf.vu z y hz hy yI
    subst this
    rw[NH]at h2
    exact e5 k j hk h2 h3
   ·rw[hβ z hz yI]at h2
    exact .inr ⟨z,hz,(lv z hz yI h1).1,h2,h3⟩
 have P0:∀k j,own c V (upd L i) β' k j->(B' k/\y.lo<=j)\/c.M0 k j\/∃z,z∈V/\live L z=true/\z.dead≠some i/\β z.id k:=by
  rintro k j (h1|⟨z,hz,h1,h2,h3⟩)
  ·exact .inr (.inl h1)
  ·by_cases yI:z.id=y.id
   ·have:=hwf.vu z y hz hy yI
    subst this
    rw[NH]at h2
    exact .inl ⟨h2,h3⟩
   ·rw[hβ z hz yI]at h2
    obtain⟨k1,k2⟩:=lv z hz yI h1
    exact .inr (.inr ⟨z,hz,k1,k2,h2⟩)
 have lift:∀F:World->Prop,aM (own c V L β) F w->aM (own c V (upd L i) β') F w':=λF hF w'' he=>by
  refine hF w'' ⟨Nat.le_trans e0.2.2.2 he.size,λk hk hno=>?_,λk j v hno hv=>?_⟩
  ·rw[he.block k (Nat.lt_of_lt_of_le hk e0.2.2.2) λj h'=>hno j (gW k j hk h')]
   exact e3.block k hk hno
  ·have hk:=World.block_lt_of_cell? w _ hv
   exact he.cell k j v (λh'=>hno (gW k j hk h')) (e3.cell k j v hno hv)
 have F0:∀z,z∈V->live L z=true->z.dead≠some i->∀F:World->Prop,aM (minus (own c V L β) (β z.id)) F w->aM (minus (own c V (upd L i) β') (β z.id)) F w':=λz hz hl yB F hF w'' he=>by
  have e:=e4 z hz hl yB
  refine hF w'' ⟨Nat.le_trans e0.2.2.2 he.size,λk hk hno=>?_,λk j v hno hv=>?_⟩
  ·rw[he.block k (Nat.lt_of_lt_of_le hk e0.2.2.2) λj h'=>hno j ⟨gW k j hk h'.1,h'.2⟩]
   exact e.block k hk hno
  ·have hk:=World.block_lt_of_cell? w _ hv
   exact he.cell k j v (λh'=>hno ⟨gW k j hk h'.1,h'.2⟩) (e.cell k j v hno hv)
 refine⟨β',by rw[jt]; exact h.size,by rw[put_defers]; exact h.defers,⟨e0.1.trans h.below.os,e0.2.1.trans h.below.tape,e0.2.2.1.trans h.below.output,Nat.le_trans h.below.size e0.2.2.2,λk hk hn=>(e1 k hk hn).trans (h.below.block k hk hn)⟩,h.pZ e1,?_,?_,?_,?_⟩
 ·intro z hz hl
  by_cases yI:z.id=y.id
  ·have:=hwf.vu z y hz hy yI
   subst this
   exact VP β' NH gW P0
  ·obtain⟨hl,yB⟩:=lv z hz yI hl
   exact(h.var z hz hl).keep (bZ (nS z hz yI yB)) (hβ z hz yI) (λg hg=>(e2 z hz hl yB g hg).1) e0.2.2.2 lift (F0 z hz hl yB) (jo (C2 z hz))
 ·intro z z' g hz I6 h1 h2 hne
  by_cases yI:z.id=y.id
  ·have DB:z'.id≠y.id:=λe=>hne (yI.trans e.symm)
   obtain⟨h2,Ny⟩:=lv z' I6 DB h2
   rw[yI,NH,hβ z' I6 DB]
   exactλk1 k2=>(e2 z' I6 h2 Ny g k2).2 k1
  ·obtain⟨h1,uV⟩:=lv z hz yI h1
   rw[hβ z hz yI]
   by_cases DB:z'.id=y.id
   ·rw[DB,NH]
    exactλk1 k2=>(e2 z hz h1 uV g k1).2 k2
   ·rw[hβ z' I6 DB]
    exact h.apart z z' g hz I6 h1 (lv z' I6 DB h2).1 hne
 ·intro p hp hl hcd
  have hpt:p.tag≠some i:=λe=>by have:=hwf.aa p hp e; rw[Mn]at this; cases this
  rw[bX hpt]at hl
  obtain⟨g,hg,hp1⟩:=h.al p hp hl hcd
  rw[bZ λe=>hpt (hwf.a1 p hp e),hp1]
  have hne:p.var≠y.id:=by
   intro e
   rw[List.all_eq_true]at fC
   have h1:=fC p hp
   rw[e]at h1
   simp only[bne_self_eq_false,Bool.false_or]at h1
   cases ht:p.tag with
   |none=>rw[ht]at h1; simp at h1
   |some j=>
    rw[ht]at h1 hl
    have:=hd.behind j (by simpa using h1)
    simp only[on,this]at hl
    cases hl
  exact⟨g,by simpa [β',hne] using hg,rfl⟩
 ·intro e he hl hf
  obtain⟨hf,IU⟩:=jW hf
  by_cases ht:e.tag=some i
  ·have hd':=hwf.g2 e he ht
   rw[hd',iG (by rw[h.size]; exact hwf.sz _ hd')]
   exact hG β' NH gW P0 e he ht
  ·rw[bX ht]at hl
   rw[bZ λhd'=>(hwf.g1 e he hd').elim ht IU]
   exact lift _ (h.gY e he hl hf)
end
end Wx
