import Derived.Test.YtfnmkhlleanppaaGreatDoorJWN4
import Derived.Test.YtfnmkhlleanppaaGreatDoorCWNShelf
import Derived.Deep.DeepMust
import Derived.Deep.RegionHeld3
namespace Wx
end Wx

namespace Wx
open Go Go.RowKit Go.Proofs
end Wx

namespace Wx
open Go Go.RowKit Go.Proofs
end Wx

namespace Wx
open Go Go.RowKit Go.Proofs
@[irreducible] def dvQ (hi lo y : Nat) : Nat := (hi * b64 + lo) / y
@[irreducible] def dvR (hi lo y : Nat) : Nat := (hi * b64 + lo) % y
end Wx

namespace Wx
open Go Go.RowKit Go.Proofs
end Wx

namespace Wx
open Go Go.RowKit Go.Proofs
end Wx

namespace Wx
open Go Go.RowKit Go.Proofs
end Wx

namespace Wx
open Go Go.RowKit Go.Proofs
end Wx

namespace Wx
open Go Go.RowKit Go.Proofs
end Wx

namespace Wx
open Go Go.RowKit Go.Proofs
end Wx

namespace Wx
open Go Go.RowKit Go.Proofs
end Wx

namespace Wx
open Go Go.RowKit Go.Proofs
end Wx

namespace Wx
open Go Go.RowKit Go.Proofs
def zo (d:Nat):Nat:=if d=1 then 0 else d
def vz (w:World) (v:Value) (q:Rat):Prop:=∃vn vd,v=.agg #[.bool (decide (q.num<0)),vn,vd]/\vA .u64 b64 w vn q.num.natAbs/\vA .u64 b64 w vd (zo q.den)
def yZ (j:Nat) (q:Rat):Prop:=Bd j q.num.natAbs/\Bd j q.den
theorem yZ.mono {j k:Nat} {q:Rat} (h:yZ j q) (hk:j<=k):yZ k q:=⟨h.1.mono hk,h.2.mono hk⟩
def sg (neg:Bool) (n:Nat):Int:=if neg then -(n:Int)else n
theorem oc (w:World):vz w (.agg #[.bool false,.slice none 0 0,.slice none 0 0]) 0:=⟨_,_,rfl,vA.zero _ _ _,vA.zero _ _ _⟩
end Wx

namespace Wx
open Go Go.RowKit Go.Proofs
@[irreducible] def cv (w : World) (a : Addr) : Value := (w.cell? a).getD (.bool false)
end Wx

namespace Wx
open Go Go.RowKit
def Az (q:Rat):Pred:=λw v=>vz w v q
theorem jo (b:Bool):dc (.bool b):=λ_=>⟨(by simp),by simp⟩
theorem aZ (A:Option Addr) (l c:Nat):dc (.slice A l c):=λ_=>⟨(by simp),by simp⟩
theorem uQ (n:Int):dc (.int .i64 n):=λ_=>⟨(by simp),by simp⟩
theorem lC (n:Int):dc (.int .u8 n):=λ_=>⟨(by simp),by simp⟩
theorem eE (s:ByteArray):dc (.string s):=λ_=>⟨(by simp),by simp⟩
theorem mm (q:Rat):Fits 3 true (Az q):=by
 rintro w v ⟨vn,vd,rfl,h1,h2⟩
 obtain⟨A,c,rfl,_⟩:=h1
 obtain⟨B,d,rfl,_⟩:=h2
 refine⟨[_,_,_],rfl,rfl,rfl,?_⟩
 intro u hu
 simp at hu
 rcases hu with rfl|rfl|rfl
 ·exact⟨jo _,rfl⟩
 ·exact⟨aZ _ _ _,rfl⟩
 ·exact⟨aZ _ _ _,rfl⟩
theorem bG {v:Value} (hn:dc v) (h1:v.oneCell'=true) (hc:v.cells=#[v]):Fits 1 false (aE v):=by
 intro w u hu
 have hu:u=v:=hu
 subst hu
 refine⟨[u],rfl,rfl,hc,?_⟩
 intro x hx
 simp at hx
 subst hx
 exact⟨hn,h1⟩
theorem fits_int (n:Int):Fits 1 false (pI n):=bG (uQ n) rfl rfl
theorem fits_bool (b:Bool):Fits 1 false (pB b):=bG (jo b) rfl rfl
theorem uh (n:Int):Fits 1 false (aE (.int .u8 n)):=bG (lC n) rfl rfl
theorem mq (s:ByteArray):Fits 1 false (aE (.string s)):=bG (eE s) rfl rfl
structure Fd where
 agg:Bool
 n:Nat
 p:Pred
def av:List Fd->World->List Value->Prop
 |[],_,cs=>cs=[]
 |f::fs,w,cs=>f.n<=cs.length/\f.p w (ae f.agg (cs.take f.n))/\av fs w (cs.drop f.n)
def pS (fs:List Fd):Pred:=λw v=>∃cs:List Value,v=.agg cs.toArray/\av fs w cs
def aO:List Fd->Nat->Nat
 |[],_=>0
 |_::_,0=>0
 |f::fs,k+1=>f.n+aO fs k
def eK:List Fd->Nat
 |[]=>0
 |f::fs=>f.n+eK fs
theorem eG:∀{fs:List Fd} {w:World} {cs:List Value},av fs w cs->cs.length=eK fs:=by
 intro fs
 induction fs with
 |nil=>intro w cs h; rw[show cs=[]from h]; rfl
 |cons f fs ih=>
  intro w cs h
  obtain⟨h1,_,h3⟩:=h
  have:=ih h3
  rw[List.length_drop]at this
  simp only[eK]
  omega
theorem ox:∀{fs:List Fd} {w:World} {cs:List Value} {k:Nat} {f:Fd},av fs w cs->fs[k]?=some f->f.p w (ae f.agg ((cs.drop (aO fs k)).take f.n)):=by
 intro fs
 induction fs with
 |nil=>intro w cs k f _ hk; simp at hk
 |cons g fs ih=>
  intro w cs k f h hk
  obtain⟨h1,h2,h3⟩:=h
  cases k with
  |zero=>simp at hk; subst hk; exact h2
  |succ k=>
   have:=ih h3 (by simpa using hk)
   rw[List.drop_drop]at this
   exact this
variable {cs:List Value}
theorem bO {ds:List Value} (h:ae true cs=ae true ds):cs=ds:=by
 simp only[ae,if_true]at h
 injection h with h
 have:=congrArg Array.toList h
 simpa using this
theorem oy:∀{fs:List Fd} {w:World} {cs ds:List Value} {k:Nat} {f:Fd} {q:Pred},av fs w cs->fs[k]?=some f->ds.length=f.n->q w (ae f.agg ds)->av (fs.set k ⟨f.agg,f.n,q⟩) w (cs.take (aO fs k)++ds++cs.drop (aO fs k+f.n)):=by
 intro fs
 induction fs with
 |nil=>intro w cs ds k f q _ hk; simp at hk
 |cons g fs ih=>
  intro w cs ds k f q h hk hl hq
  obtain⟨h1,h2,h3⟩:=h
  cases k with
  |zero=>
   simp at hk
   subst hk
   refine⟨by simp[aO,hl],?_,?_⟩
   ·simp[aO,<-hl]; exact hq
   ·simp[aO,<-hl]
    rw[hl]
    exact h3
  |succ k=>
   have:=ih h3 (by simpa using hk) hl hq
   have hlen:=eG h3
   refine⟨?_,?_,?_⟩
   ·show g.n<=(cs.take (g.n+aO fs k)++ds++cs.drop (g.n+aO fs k+f.n)).length
    simp only[List.length_append,List.length_take,List.length_drop]
    omega
   ·have e:((cs.take (g.n+aO fs k)++ds++cs.drop (g.n+aO fs k+f.n)).take g.n)=cs.take g.n:=by
     rw[List.append_assoc,List.take_append_of_le_length (by simp; omega),List.take_take]
     congr 1; omega
    show g.p w (ae g.agg ((cs.take (g.n+aO fs k)++ds++cs.drop (g.n+aO fs k+f.n)).take g.n))
    rw[e]; exact h2
   ·show av _ w ((cs.take (g.n+aO fs k)++ds++cs.drop (g.n+aO fs k+f.n)).drop g.n)
    have e:((cs.take (g.n+aO fs k)++ds++cs.drop (g.n+aO fs k+f.n)).drop g.n)=(cs.drop g.n).take (aO fs k)++ds++(cs.drop g.n).drop (aO fs k+f.n):=by
     have e1:g.n+aO fs k-g.n=aO fs k:=by omega
     have e2:g.n+(aO fs k+f.n)=g.n+aO fs k+f.n:=by omega
     rw[List.append_assoc,List.drop_append_of_le_length (by simp; omega),List.drop_take,e1,List.append_assoc,List.drop_drop,e2]
    rw[e]; exact this
def iL:List Fd->Prop
 |[]=>True
 |f::fs=>Fits f.n f.agg f.p/\iL fs
variable {fs:List Fd}
theorem kW (h:iL fs) {n:Nat} (hn:eK fs=n):Fits n true (pS fs):=by
 rintro w v ⟨cs,rfl,hc⟩
 refine⟨cs,rfl,by rw[<-hn]; exact eG hc,rfl,?_⟩
 have key:∀(fs:List Fd),iL fs->∀cs,av fs w cs->∀u∈cs,dc u/\u.oneCell'=true:=by
  intro fs
  induction fs with
  |nil=>intro _ cs h u hu; rw[show cs=[]from h]at hu; cases hu
  |cons f fs ih=>
   rintro⟨h0,Du⟩ cs ⟨h1,h2,h3⟩ u hu
   rw[<-List.take_append_drop f.n cs,List.mem_append]at hu
   rcases hu with hu|hu
   ·obtain⟨ds,e,hl,hcells,h4⟩:=h0 w _ h2
    have:cs.take f.n=ds:=by
     cases hagg:f.agg with
     |true=>rw[hagg]at e; exact bO e
     |false=>
      rw[hagg]at e hcells
      have zH:=hcells
      rw[e]at zH
      match ds,hl,h4 with
      |[x],hl,h4=>
       have hl':(cs.take f.n).length=1:=by rw[List.length_take]; simp at hl; omega
       match hct:cs.take f.n,hl' with
       |[y],_=>
        rw[hct]at e
        simp only[ae,Bool.false_eq_true,if_false,List.headD_cons]at e
        rw[e]
      |[],hl,_=>
       exfalso
       simp only[ae,Bool.false_eq_true,if_false,List.headD_nil,undef,Value.cells]at zH
       exact absurd (congrArg Array.size zH) (by simp)
      |x::y::ds,hl,h4=>
       exfalso
       have:=h4 x (by simp)
       simp only[ae,Bool.false_eq_true,if_false,List.headD_cons]at zH
       cases x<;>simp[Value.oneCell',Value.cells]at this zH
    rw[this]at hu
    exact h4 u hu
   ·exact ih Du _ h3 u hu
 exact key fs h cs hc
theorem wv {w:World} (h:av fs w cs):pS fs w (.agg cs.toArray):=⟨cs,rfl,h⟩
end Wx
