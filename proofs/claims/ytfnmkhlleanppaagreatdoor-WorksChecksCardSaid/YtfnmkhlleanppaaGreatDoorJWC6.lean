import Derived.Test.YtfnmkhlleanppaaGreatDoorJWC4
import Derived.Test.YtfnmkhlleanppaaGreatDoorCWCShelf
import Derived.Deep.DeepMust
import Derived.Deep.RegionHeld3
import Derived.Laws.Tables
namespace Wx
end Wx

namespace Wx
open Go Go.RowKit Go.Proofs
end Wx

namespace Wx
open Go Go.RowKit Go.Proofs
end Wx

namespace Wx
open Go Go.RowKit Go.Proofs
@[irreducible] def dvQ (hi lo y : Nat) : Nat := (hi * b64 + lo) / y
@[irreducible] def dvR (hi lo y : Nat) : Nat := (hi * b64 + lo) % y
end Wx

namespace Wx
open Go Go.RowKit Go.Proofs
end Wx

namespace Wx
open Go Go.RowKit Go.Proofs
end Wx

namespace Wx
open Go Go.RowKit Go.Proofs
end Wx

namespace Wx
open Go Go.RowKit Go.Proofs
end Wx

namespace Wx
open Go Go.RowKit Go.Proofs
end Wx

namespace Wx
open Go Go.RowKit Go.Proofs
end Wx

namespace Wx
open Go Go.RowKit Go.Proofs
end Wx

namespace Wx
open Go Go.RowKit Go.Proofs
end Wx

namespace Wx
open Go Go.RowKit Go.Proofs
def Gs (d:Nat):Nat:=if d=1 then 0 else d
def CA (w:World) (v:Value) (q:Rat):Prop:=∃vn vd,v=.agg #[.bool (decide (q.num<0)),vn,vd]/\Ah .u64 b64 w vn q.num.natAbs/\Ah .u64 b64 w vd (Gs q.den)
def F8 (j:Nat) (q:Rat):Prop:=Bd j q.num.natAbs/\Bd j q.den
theorem F8.mono {j k:Nat} {q:Rat} (h:F8 j q) (hk:j<=k):F8 k q:=⟨h.1.mono hk,h.2.mono hk⟩
def sg (neg:Bool) (n:Nat):Int:=if neg then -(n:Int)else n
theorem tq (w:World):CA w (.agg #[.bool false,.slice none 0 0,.slice none 0 0]) 0:=⟨_,_,rfl,Ah.zero _ _ _,Ah.zero _ _ _⟩
end Wx

namespace Wx
open Go Go.RowKit Go.Proofs
@[irreducible] def cv (w : World) (a : Addr) : Value := (w.cell? a).getD (.bool false)
end Wx

namespace Wx
open Go Go.RowKit
variable {M:Nat->Nat->Prop} {w:World} {k:IntKind}
theorem Fx {A:Option Addr} {c:Nat} {l:List Nat} (hM:cS M w) (hk:k=.u64\/k=.u64) (h:Rd w k A c l):aJ M (λw=>Rd w k A c l) w:=by
 intro w' he
 obtain⟨h1,h2,h3⟩:=h
 refine⟨h1,h2,λhne=>?_⟩
 obtain⟨b,o,e,hc⟩:=h3 hne
 refine⟨b,o,e,λi hi=>he.cell b (o+i) _ (λhm=>?_) (hc i hi)⟩
 have:=(hM b (o+i) hm).2 _ (hc i hi)
 rcases hk with rfl|rfl
 ·exact(this _).1 rfl
 ·exact(this _).2 rfl
variable {v:Value}
theorem lV {b n:Nat} (hM:cS M w) (hk:k=.u64\/k=.u64) (h:Ah k b w v n):aJ M (λw=>Ah k b w v n) w:=by
 obtain⟨A,c,rfl,hr⟩:=h
 exactλw' he=>⟨A,c,rfl,Fx hM hk hr w' he⟩
def Fk (q:Rat):Pred:=λw v=>CA w v q
theorem iI (q:Rat):aO (Fk q):=by
 rintro M w v hM ⟨vn,vd,rfl,h1,h2⟩ w' he
 exact⟨vn,vd,rfl,lV hM (.inl rfl) h1 w' he,lV hM (.inl rfl) h2 w' he⟩
theorem mR (b:Bool):dB (.bool b):=λ_=>⟨(by simp),by simp⟩
theorem bu (A:Option Addr) (l c:Nat):dB (.slice A l c):=λ_=>⟨(by simp),by simp⟩
theorem BL (n:Int):dB (.int .i64 n):=λ_=>⟨(by simp),by simp⟩
theorem kQ (n:Int):dB (.int .u8 n):=λ_=>⟨(by simp),by simp⟩
theorem eH (s:ByteArray):dB (.string s):=λ_=>⟨(by simp),by simp⟩
theorem qW (q:Rat):Fits 3 true (Fk q):=by
 rintro w v ⟨vn,vd,rfl,h1,h2⟩
 obtain⟨A,c,rfl,_⟩:=h1
 obtain⟨B,d,rfl,_⟩:=h2
 refine⟨[_,_,_],rfl,rfl,rfl,?_⟩
 intro u hu
 simp at hu
 rcases hu with rfl|rfl|rfl
 ·exact⟨mR _,rfl⟩
 ·exact⟨bu _ _ _,rfl⟩
 ·exact⟨bu _ _ _,rfl⟩
theorem cg (hn:dB v) (h1:v.oneCell'=true) (hc:v.cells=#[v]):Fits 1 false (aG v):=by
 intro w u hu
 have hu:u=v:=hu
 subst hu
 refine⟨[u],rfl,rfl,hc,?_⟩
 intro x hx
 simp at hx
 subst hx
 exact⟨hn,h1⟩
theorem fits_int (n:Int):Fits 1 false (pI n):=cg (BL n) rfl rfl
theorem fits_bool (b:Bool):Fits 1 false (pB b):=cg (mR b) rfl rfl
theorem AU (n:Int):Fits 1 false (aG (.int .u8 n)):=cg (kQ n) rfl rfl
theorem qY (s:ByteArray):Fits 1 false (aG (.string s)):=cg (eH s) rfl rfl
structure Fd where
 agg:Bool
 n:Nat
 p:Pred
def aH:List Fd->World->List Value->Prop
 |[],_,cs=>cs=[]
 |f::fs,w,cs=>f.n<=cs.length/\f.p w (aq f.agg (cs.take f.n))/\aH fs w (cs.drop f.n)
def pS (fs:List Fd):Pred:=λw v=>∃cs:List Value,v=.agg cs.toArray/\aH fs w cs
def bg:List Fd->Nat->Nat
 |[],_=>0
 |_::_,0=>0
 |f::fs,k+1=>f.n+bg fs k
def gZ:List Fd->Nat
 |[]=>0
 |f::fs=>f.n+gZ fs
theorem gU:∀{fs:List Fd} {w:World} {cs:List Value},aH fs w cs->cs.length=gZ fs:=by
 intro fs
 induction fs with
 |nil=>intro w cs h; rw[show cs=[]from h]; rfl
 |cons f fs ih=>
  intro w cs h
  obtain⟨h1,_,h3⟩:=h
  have:=ih h3
  rw[List.length_drop]at this
  simp only[gZ]
  omega
theorem tJ:∀{fs:List Fd} {w:World} {cs:List Value} {k:Nat} {f:Fd},aH fs w cs->fs[k]?=some f->f.p w (aq f.agg ((cs.drop (bg fs k)).take f.n)):=by
 intro fs
 induction fs with
 |nil=>intro w cs k f _ hk; simp at hk
 |cons g fs ih=>
  intro w cs k f h hk
  obtain⟨h1,h2,h3⟩:=h
  cases k with
  |zero=>simp at hk; subst hk; exact h2
  |succ k=>
   have:=ih h3 (by simpa using hk)
   rw[List.drop_drop]at this
   exact this
variable {cs:List Value}
theorem cR {ds:List Value} (h:aq true cs=aq true ds):cs=ds:=by
 simp only[aq,if_true]at h
 injection h with h
 have:=congrArg Array.toList h
 simpa using this
theorem tK:∀{fs:List Fd} {w:World} {cs ds:List Value} {k:Nat} {f:Fd} {q:Pred},aH fs w cs->fs[k]?=some f->ds.length=f.n->q w (aq f.agg ds)->aH (fs.set k ⟨f.agg,f.n,q⟩) w (cs.take (bg fs k)++ds++cs.drop (bg fs k+f.n)):=by
 intro fs
 induction fs with
 |nil=>intro w cs ds k f q _ hk; simp at hk
 |cons g fs ih=>
  intro w cs ds k f q h hk hl hq
  obtain⟨h1,h2,h3⟩:=h
  cases k with
  |zero=>
   simp at hk
   subst hk
   refine⟨by simp[bg,hl],?_,?_⟩
   ·simp[bg,<-hl]; exact hq
   ·simp[bg,<-hl]
    rw[hl]
    exact h3
  |succ k=>
   have:=ih h3 (by simpa using hk) hl hq
   have hlen:=gU h3
   refine⟨?_,?_,?_⟩
   ·show g.n<=(cs.take (g.n+bg fs k)++ds++cs.drop (g.n+bg fs k+f.n)).length
    simp only[List.length_append,List.length_take,List.length_drop]
    omega
   ·have e:((cs.take (g.n+bg fs k)++ds++cs.drop (g.n+bg fs k+f.n)).take g.n)=cs.take g.n:=by
     rw[List.append_assoc,List.take_append_of_le_length (by simp; omega),List.take_take]
     congr 1; omega
    show g.p w (aq g.agg ((cs.take (g.n+bg fs k)++ds++cs.drop (g.n+bg fs k+f.n)).take g.n))
    rw[e]; exact h2
   ·show aH _ w ((cs.take (g.n+bg fs k)++ds++cs.drop (g.n+bg fs k+f.n)).drop g.n)
    have e:((cs.take (g.n+bg fs k)++ds++cs.drop (g.n+bg fs k+f.n)).drop g.n)=(cs.drop g.n).take (bg fs k)++ds++(cs.drop g.n).drop (bg fs k+f.n):=by
     have e1:g.n+bg fs k-g.n=bg fs k:=by omega
     have e2:g.n+(bg fs k+f.n)=g.n+bg fs k+f.n:=by omega
     rw[List.append_assoc,List.drop_append_of_le_length (by simp; omega),List.drop_take,e1,List.append_assoc,List.drop_drop,e2]
    rw[e]; exact this
def lN:List Fd->Prop
 |[]=>True
 |f::fs=>Fits f.n f.agg f.p/\lN fs
variable {fs:List Fd}
theorem mB (h:lN fs) {n:Nat} (hn:gZ fs=n):Fits n true (pS fs):=by
 rintro w v ⟨cs,rfl,hc⟩
 refine⟨cs,rfl,by rw[<-hn]; exact gU hc,rfl,?_⟩
 have key:∀(fs:List Fd),lN fs->∀cs,aH fs w cs->∀u∈cs,dB u/\u.oneCell'=true:=by
  intro fs
  induction fs with
  |nil=>intro _ cs h u hu; rw[show cs=[]from h]at hu; cases hu
  |cons f fs ih=>
   rintro⟨h0,L0⟩ cs ⟨h1,h2,h3⟩ u hu
   rw[<-List.take_append_drop f.n cs,List.mem_append]at hu
   rcases hu with hu|hu
   ·obtain⟨ds,e,hl,hcells,h4⟩:=h0 w _ h2
    have:cs.take f.n=ds:=by
     cases hagg:f.agg with
     |true=>rw[hagg]at e; exact cR e
     |false=>
      rw[hagg]at e hcells
      have FU:=hcells
      rw[e]at FU
      match ds,hl,h4 with
      |[x],hl,h4=>
       have hl':(cs.take f.n).length=1:=by rw[List.length_take]; simp at hl; omega
       match hct:cs.take f.n,hl' with
       |[y],_=>
        rw[hct]at e
        simp only[aq,Bool.false_eq_true,if_false,List.headD_cons]at e
        rw[e]
      |[],hl,_=>
       exfalso
       simp only[aq,Bool.false_eq_true,if_false,List.headD_nil,undef,Value.cells]at FU
       exact absurd (congrArg Array.size FU) (by simp)
      |x::y::ds,hl,h4=>
       exfalso
       have:=h4 x (by simp)
       simp only[aq,Bool.false_eq_true,if_false,List.headD_cons]at FU
       cases x<;>simp[Value.oneCell',Value.cells]at this FU
    rw[this]at hu
    exact h4 u hu
   ·exact ih L0 _ h3 u hu
 exact key fs h cs hc
theorem Dr (h:aH fs w cs):pS fs w (.agg cs.toArray):=⟨cs,rfl,h⟩
end Wx

namespace Wx
open Go Go.RowKit
def oO (P:Program) (T:TypeId) (pl:Array (Nat×Nat)) (z:List Value):Prop:=
 ∀parts,P.built T parts=Instr.fill (λi=>pl[i]?) z.toArray parts
theorem vH (ds:List Value):∀(k:Nat) (cs:List Value) (off:Nat),off+k+ds.length<=cs.length ->
  ((ds.zipIdx k).foldl (λ(cs:Array Value) (q:Value×Nat)=>cs.setIfInBounds (off+q.2) q.1) cs.toArray)=(cs.take (off+k)++ds++cs.drop (off+k+ds.length)).toArray:=by
 induction ds with
 |nil=>intro k cs off _; simp
 |cons d ds ih=>
  intro k cs off h
  simp only[List.zipIdx_cons,List.foldl_cons]
  have e:cs.toArray.setIfInBounds (off+k) d=(cs.set (off+k) d).toArray:=by simp
  rw[e,ih (k+1) (cs.set (off+k) d) off (by simp at h ⊢; omega)]
  congr 1
  have:=list_seg_step cs (off+k) d ds (by simp at h; omega)
  simpa [Nat.add_assoc,Nat.add_comm 1,Nat.add_left_comm 1] using this
def Fd.form (g:Fd):Bool×Nat:=(g.agg,g.n)
def nj (fs:List Fd) (k:Nat) (p:Pred):List Fd:=match fs[k]? with
 |some f=>fs.set k ⟨f.agg,f.n,p⟩
 |none=>fs
def ku:List Fd->List (Nat×Pred)->List Fd
 |fs,[]=>fs
 |fs,(k,p)::r=>ku (nj fs k p) r
def jy (fs:List Fd) (w:World):List (Nat×Value)->List (Nat×Pred)->Prop
 |[],[]=>True
 |(i,v)::vs,(k,p)::ps=>(i=k/\p w v/\∃f,fs[k]?=some f/\Fits f.n f.agg p)/\jy fs w vs ps
 |_,_=>False
variable {fs:List Fd} {k:Nat} {f:Fd} {p:Pred}
theorem wL (hk:fs[k]?=some f):∀j:Nat,((fs.set k ⟨f.agg,f.n,p⟩)[j]?).map Fd.form=(fs[j]?).map Fd.form:=by
 intro j
 rw[List.getElem?_set]
 by_cases h:k=j
 ·subst h
  simp only[if_true]
  split
  ·rw[hk]; rfl
  ·rename_i hlt
   rw[hk]
   rw[List.getElem?_eq_none (by omega)]at hk
   cases hk
 ·rw[if_neg h]
theorem BP (hk:fs[k]?=some f):∀j,bg (fs.set k ⟨f.agg,f.n,p⟩) j=bg fs j:=by
 induction fs generalizing k with
 |nil=>simp at hk
 |cons g fs ih=>
  intro j
  cases k with
  |zero=>
   simp at hk
   subst hk
   cases j<;>rfl
  |succ k=>
   cases j with
   |zero=>rfl
   |succ j=>simp only[List.set_cons_succ,bg]; rw[ih (by simpa using hk)]
variable {w:World}
theorem jy.shape:∀{vs:List (Nat×Value)} {ps:List (Nat×Pred)} {fs gs:List Fd},(∀j:Nat,(gs[j]?).map Fd.form=(fs[j]?).map Fd.form)->jy fs w vs ps->jy gs w vs ps:=by
 intro vs
 induction vs with
 |nil=>intro ps fs gs h hp; cases ps<;>exact hp
 |cons v vs ih=>
  intro ps fs gs h hp
  cases ps with
  |nil=>exact hp
  |cons q ps=>
   obtain⟨i,v⟩:=v
   obtain⟨k,p⟩:=q
   obtain⟨⟨e,hv,f,hf,hfit⟩,hr⟩:=hp
   refine⟨⟨e,hv,?_⟩,ih h hr⟩
   have:=h k
   rw[hf]at this
   cases hg:gs[k]? with
   |none=>rw[hg]at this; cases this
   |some g=>
    rw[hg]at this
    simp only[Option.map_some,Option.some.injEq,Fd.form,Prod.mk.injEq]at this
    exact⟨g,rfl,by rw[this.1,this.2]; exact hfit⟩
theorem sW {n:Nat} {agg:Bool} (hf:Fits n agg p) {w:World} {v:Value} (h:p w v):∃cs:List Value,v=aq agg cs/\cs.length=n/\v.cells=cs.toArray:=by
 obtain⟨cs,h1,h2,h3,_⟩:=hf w v h
 exact⟨cs,h1,h2,h3⟩
theorem pq {pl:Nat->Option (Nat×Nat)}:∀(vs:List (Nat×Value)) (ps:List (Nat×Pred)) (fs:List Fd) (cs:List Value),(∀(k:Nat) (f:Fd),fs[k]?=some f->pl k=some (bg fs k,f.n))->aH fs w cs->jy fs w vs ps ->
  ∃cs':List Value,Instr.fill pl cs.toArray vs=some cs'.toArray/\aH (ku fs ps) w cs'/\∀w',aH fs w' cs->jy fs w' vs ps->aH (ku fs ps) w' cs':=by
 intro vs
 induction vs with
 |nil=>
  intro ps fs cs vN hc hp
  cases ps with
  |nil=>exact⟨cs,rfl,hc,λ_ h _=>h⟩
  |cons q ps=>exact hp.elim
 |cons v vs ih=>
  intro ps fs cs vN hc hp
  cases ps with
  |nil=>exact hp.elim
  |cons q ps=>
   obtain⟨i,v⟩:=v
   obtain⟨k,p⟩:=q
   obtain⟨⟨rfl,hv,f,hf,hfit⟩,hr⟩:=hp
   obtain⟨ds,e,hl,hcells⟩:=sW hfit hv
   have dm:∀w',aH fs w' cs->p w' v->aH (nj fs i p) w' (cs.take (bg fs i)++ds++cs.drop (bg fs i+f.n)):=λw' h1 h2=>by
    unfold nj
    rw[hf]
    exact tK h1 hf hl (by rw[<-e]; exact h2)
   have hlen:=gU hc
   have hoff:bg fs i+f.n<=gZ fs:=by
    clear vN hr dm hlen ih hc
    induction fs generalizing i with
    |nil=>simp at hf
    |cons g fs MS=>
     cases i with
     |zero=>simp at hf; subst hf; simp[bg,gZ]
     |succ i=>have:=MS i (by simpa using hf); simp only[bg,gZ]; omega
   have hsh:∀j:Nat,((nj fs i p)[j]?).map Fd.form=(fs[j]?).map Fd.form:=by
    unfold nj; rw[hf]; exact wL hf
   obtain⟨cs',h1,h2,h3⟩:=ih ps (nj fs i p) (cs.take (bg fs i)++ds++cs.drop (bg fs i+f.n)) (λk g hg=>by
     have h4:=hsh k
     rw[hg]at h4
     cases hk:fs[k]? with
     |none=>rw[hk]at h4; cases h4
     |some g'=>
      rw[hk]at h4
      simp only[Option.map_some,Option.some.injEq,Fd.form,Prod.mk.injEq]at h4
      rw[vN k g' hk,h4.2]
      have:bg (nj fs i p) k=bg fs k:=by unfold nj; rw[hf]; exact BP hf k
      rw[this]) (dm w hc hv) (hr.shape hsh)
   refine⟨cs',?_,h2,λw' k1 k2=>h3 w' (dm w' k1 k2.1.2.1) (k2.2.shape hsh)⟩
   have hsz:v.cells.size=f.n:=by rw[hcells]; simpa using hl
   have:=vH ds 0 cs (bg fs i) (by omega)
   simp only[Nat.add_zero,hl]at this
   unfold Instr.fill
   simp only[vN i f hf,hsz,ne_eq,not_true_eq_false,decide_false,Bool.false_or]
   rw[if_neg (by simp; omega),hcells,show ds.toArray.zipIdx=(ds.zipIdx 0).toArray by simp]
   rw[<-h1,<-this]
   congr 1
   simp
section
variable {P:Program} {ops:Array Oper} {ms:List Nat} {c:bQ} {V:List Vr} {A:List Al} {G:List aN} {i:Nat}{d:Nat} {x y:Operand} {ty:TypeId} {pos:String} {aft:Array Edge}
def bZ (ms:List Nat) (G:List aN) (i:Nat) (fs:List Fd):List (Nat×Operand)->List (Nat×Pred)->Prop
 |[],[]=>True
 |(j,x)::xs,(k,p)::ps=>(j=k/\Has ms G i x p/\∃f,fs[k]?=some f/\Fits f.n f.agg p)/\bZ ms G i fs xs ps
 |_,_=>False
theorem rU {T:TypeId} {parts:Array (Nat×Operand)} {pl:Array (Nat×Nat)} {z:List Value} {fs gs:List Fd} {ps:List (Nat×Pred)} (ht:oO P T pl z) (vN:∀(k:Nat) (f:Fd),fs[k]?=some f->pl[k]?=some (bg fs k,f.n)) (hz:∀w,aH fs w z)
  (hps:bZ ms G i fs parts.toList ps) (hg:ku fs ps=gs) (hp:Post G i (pS gs)):
  OpOk P ops ms c V A G i ⟨some d,.build T parts,ty,pos,aft,none⟩:=
 bD rfl rfl rfl (.inl rfl) hp λL β a w hI hd=>by
  have key:∀(xs:List (Nat×Operand)) (ps:List (Nat×Pred)),bZ ms G i fs xs ps->aJ (own c V L β) (λw=>jy fs w (xs.map λq=>(q.1,a.eval q.2)) ps) w:=by
   intro xs
   induction xs with
   |nil=>intro ps h; cases ps<;>exactλ_ _=>h
   |cons q xs ih=>
    intro ps h
    obtain⟨j,x⟩:=q
    cases ps with
    |nil=>exact h.elim
    |cons r ps=>
     obtain⟨k,p⟩:=r
     obtain⟨⟨e,h1,h2⟩,h3⟩:=h
     exactλw' he=>⟨⟨e,h1.spec hI hd w' he,h2⟩,ih ps h3 w' he⟩
  have hb:=key _ _ hps
  obtain⟨cs',h1,h2,h3⟩:=pq (pl:=λi=>pl[i]?) _ _ fs z vN (hz w) hb.out
  refine⟨.agg cs'.toArray,w,?_,Below.refl _ _,λw' he=>?_⟩
  ·show(do pure (Next.value (<-Instr.build T (parts.map λ(i,x)=>(i,a.eval x))))).run P w=_
   have e:(parts.map λ(i,x)=>(i,a.eval x)).toList=parts.toList.map λq=>(q.1,a.eval q.2):=by simp
   rw[Sem.run_bind,run_build w T _ cs'.toArray (by rw[e,ht]; exact h1)]
   rfl
  ·rw[<-hg]
   exact Dr (h3 w' (hz w') (hb w' he))
end
def Lv (fs:List Fd) (pl:Array (Nat×Nat)):Bool:=(List.range fs.length).all λk=>match fs[k]? with
 |some f=>pl[k]?==some (bg fs k,f.n)
 |none=>true
theorem oF {fs:List Fd} {pl:Array (Nat×Nat)} (h:Lv fs pl=true):∀(k:Nat) (f:Fd),fs[k]?=some f->pl[k]?=some (bg fs k,f.n):=by
 intro k f hk
 unfold Lv at h
 rw[List.all_eq_true]at h
 have hlt:k<fs.length:=by
  rcases Nat.lt_or_ge k fs.length with h'|h'
  ·exact h'
  ·rw[List.getElem?_eq_none h']at hk; cases hk
 have:=h k (List.mem_range.2 hlt)
 rw[hk]at this
 simpa using this
end Wx
