import Derived.Test.YtfnmkhlleanppaaGreatDoorJWB12
namespace Wx
open Go Go.RowKit Go.Proofs
end Wx

namespace Wx
open Go Go.RowKit
theorem kj (A:Option Addr) (n cap:Nat):Fits 1 false (aJ (.slice A n cap)):=aX (bq _ _ _) rfl rfl
section
variable {L1 L2:List Rat} {s1 s2 k:Nat} {f:Rat}
end
end Wx

namespace Wx
open Go Go.RowKit
end Wx

namespace Wx
open Go Go.RowKit
section
variable {P:Program} {Q:Exit->Act->World->Prop} {c:bJ} {V:List Vr} {A:List Al} {G:List aI} {a:Act} {w:World} {o:Oper}{d:Nat} {x y z u:Operand} {ty:TypeId} {pos:String} {au:Array Edge}
theorem aU.mono {ops:Array Oper} {K K':Act->World->Prop} (h:aU P ops o a w K) (hK:∀a w,K a w->K' a w):aU P ops o a w K':=by
 unfold aU at *
 split at h
 ·rename_i hw
  rw[if_pos hw]
  exact h.mono hK
 ·rename_i hw
  rw[if_neg hw]
  exact hK _ _ h
end
end Wx

namespace Wx
open Go Go.RowKit
def AK:Value->Bool
 |.int .u64 _=>false
 |.int .u32 _=>false
 |_=>true
theorem lZ {v:Value} (h:AK v=true):dG v:=by
 intro n
 refine⟨?_,?_⟩<;>intro e<;>rw[e]at h<;>cases h
def tN (P:Program) (T tx E:TypeId) (sz:Nat):Bool:=
 (match P.underlying T with|some (.slice E')=>E'==E|_=>false)&&(match P.underlying tx with|some (.slice _)=>true|_=>false) &&
 (match P.info? E with
  |some ti=>(ti.size==sz&&decide (ti.bytes<=4096))&&(match ti.zero with|some zv=>zv.cells.size==sz&&zv.cells.toList.all AK|none=>false)
  |none=>false)
theorem gj {P:Program} {T tx E:TypeId} {sz:Nat} (h:tN P T tx E sz=true):nL P T tx E sz:=by
 unfold tN at h
 simp only[Bool.and_eq_true]at h
 obtain⟨⟨h1,h2⟩,h3⟩:=h
 refine⟨?_,?_,?_⟩
 ·split at h1
  ·rename_i E' he
   rw[he,eq_of_beq h1]
  ·cases h1
 ·split at h2
  ·rename_i E' he
   exact⟨E',he⟩
  ·cases h2
 ·split at h3
  ·rename_i ti he
   simp only[Bool.and_eq_true]at h3
   obtain⟨⟨h4,h5⟩,h6⟩:=h3
   split at h6
   ·rename_i zv hz
    simp only[Bool.and_eq_true,List.all_eq_true]at h6
    exact⟨ti,zv,he,eq_of_beq h4,hz,eq_of_beq h6.1,λu hu=>lZ (h6.2 u hu),of_decide_eq_true h5⟩
   ·cases h6
  ·cases h3
section
variable {P:Program} {ops:Array Oper} {ms:List Nat} {c:bJ} {V:List Vr} {A:List Al} {G:List aI} {i:Nat} {L:Nat->Bool} {β:Nat->Nat->Prop} {a:Act} {w:World} {o:Oper}{d:Nat} {x y z:Operand} {ty:TypeId} {pos:String} {au:Array Edge}{sz:Nat} {agg:Bool}
theorem kJ {T E:TypeId} {z:List Value} {zv:Value} {p:Pred} (ht:eX P T E sz) (jJ:∀w,(zeroValue E).run P w=.ok zv w) (lG:zv.cells=z.toArray) (nh:z.length=sz) (hsz:0<sz/\sz<=16777216) (h1:Has ms G i x p) (hf:Fits sz agg p) (hp:Post G i (ax sz agg 1 λ_=>p)):
  OpOk P ops ms c V A G i ⟨some d,.buildSlice T 1 #[(0,x)],ty,pos,au,none⟩:=
 cS (fs:=[⟨agg,sz,az⟩]) (ps:=[(0,p)]) (gs:=[⟨agg,sz,p⟩]) ht jJ lG rfl (decide_eq_true ⟨hsz.1,Nat.one_pos,by omega⟩) (λ_=>trivial) nh (show bW ms G i [⟨agg,sz,az⟩] [(0,x)] [(0,p)]from⟨⟨rfl,h1,_,rfl,hf⟩,trivial⟩) rfl (λ_=>p) (λk f h=>by cases k with
  |zero=>simp at h; rw[<-h]
  |succ k=>simp at h) hp
theorem aH {n:Nat} {f:Nat->Pred}:Fits 1 false (ax sz agg n f):=by
 rintro w v ⟨A,c,rfl,_⟩
 exact⟨[_],rfl,rfl,rfl,λu hu=>by simp at hu; subst hu; exact⟨bq _ _ _,rfl⟩⟩
variable {fn:Func}
end
end Wx

namespace Wx
end Wx

namespace Wx
open Go Go.RowKit Go.Proofs
def EN:Nat:=4294967296
end Wx

namespace Wx
open Go Go.RowKit Go.Proofs
end Wx

namespace Wx
open Go Go.RowKit Go.Proofs
end Wx

namespace Wx
open Go Go.RowKit Go.Proofs
end Wx

namespace Wx
open Go Go.RowKit Go.Proofs
@[irreducible] def npLo (x y u c : Nat) : Nat := (u + c + x * y) % 4294967296
@[irreducible] def npHi (x y u c : Nat) : Nat := (u + c + x * y) / 4294967296
end Wx

namespace Wx
open Go Go.RowKit Go.Proofs
end Wx

namespace Wx
open Go Go.RowKit Go.Proofs
end Wx

namespace Wx
open Go Go.RowKit Go.Proofs
@[irreducible] def bdQ (r x d : Nat) : Nat := (r * 4294967296 + x) / d
@[irreducible] def bdR (r x d : Nat) : Nat := (r * 4294967296 + x) % d
end Wx

namespace Wx
open Go Go.RowKit Go.Proofs
end Wx

namespace Wx
open Go Go.RowKit Go.Proofs
end Wx

namespace Wx
open Go Go.RowKit Go.Proofs
end Wx

namespace Wx
open Go Go.RowKit Go.Proofs
end Wx

namespace Wx
open Go Go.RowKit Go.Proofs
end Wx

namespace Wx
open Go Go.RowKit Go.Proofs
def BB (w:World) (v:Value) (q:Rat):Prop:=∃vn vd,v=.agg #[.bool (decide (q.num<0)),vn,vd]/\C6 .u64 EN w vn q.num.natAbs/\C6 .u64 EN w vd q.den
end Wx

namespace Wx
open Go Go.RowKit Go.Proofs
def CR (q:Rat):Pred:=λw v=>BB w v q
theorem od (q:Rat):Fits 3 true (CR q):=by
 rintro w v ⟨vn,vd,rfl,h1,h2⟩
 obtain⟨A,c,rfl,_⟩:=h1
 obtain⟨B,d,rfl,_⟩:=h2
 refine⟨[_,_,_],rfl,rfl,rfl,?_⟩
 intro u hu
 simp at hu
 rcases hu with rfl|rfl|rfl
 ·exact⟨kE _,rfl⟩
 ·exact⟨bq _ _ _,rfl⟩
 ·exact⟨bq _ _ _,rfl⟩
end Wx
