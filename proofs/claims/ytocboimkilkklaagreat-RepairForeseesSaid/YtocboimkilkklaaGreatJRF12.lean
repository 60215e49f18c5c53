import Derived.Test.YtocboimkilkklaaGreatJRF11
import Derived.Laws.Tables
import Derived.IntWalk
namespace Wx
open Go Go.RowKit
variable {M:Nat->Nat->Prop} {w:World} {k:IntKind}
theorem PD {A:Option Addr} {c:Nat} {l:List Nat} (hM:dc M w) (hk:k=.u64\/k=.u32) (h:Rd w k A c l):aL M (λw=>Rd w k A c l) w:=by
 intro w' he
 obtain⟨h1,h2,h3⟩:=h
 refine⟨h1,h2,λhne=>?_⟩
 obtain⟨b,o,e,hc⟩:=h3 hne
 refine⟨b,o,e,λi hi=>he.cell b (o+i) _ (λhm=>?_) (hc i hi)⟩
 have:=(hM b (o+i) hm).2 _ (hc i hi)
 rcases hk with rfl|rfl
 ·exact(this _).1 rfl
 ·exact(this _).2 rfl
variable {v:Value}
theorem nU {b n:Nat} (hM:dc M w) (hk:k=.u64\/k=.u32) (h:bq k b w v n):aL M (λw=>bq k b w v n) w:=by
 obtain⟨A,c,rfl,hr⟩:=h
 exactλw' he=>⟨A,c,rfl,PD hM hk hr w' he⟩
def au (q:Rat):Pred:=λw v=>cq w v q
theorem bt (q:Rat):aB (au q):=by
 rintro M w v hM ⟨vn,vd,rfl,h1,h2⟩ w' he
 exact⟨vn,vd,rfl,nU hM (.inl rfl) h1 w' he,nU hM (.inl rfl) h2 w' he⟩
theorem uD (b:Bool):fq (.bool b):=λ_=>⟨(by simp),by simp⟩
theorem gH (A:Option Addr) (l c:Nat):fq (.slice A l c):=λ_=>⟨(by simp),by simp⟩
theorem qp (n:Int):fq (.int .i64 n):=λ_=>⟨(by simp),by simp⟩
theorem CL (s:ByteArray):fq (.string s):=λ_=>⟨(by simp),by simp⟩
theorem aN (q:Rat):Fits 3 true (au q):=by
 rintro w v ⟨vn,vd,rfl,h1,h2⟩
 obtain⟨A,c,rfl,_⟩:=h1
 obtain⟨B,d,rfl,_⟩:=h2
 refine⟨[_,_,_],rfl,rfl,rfl,?_⟩
 intro u hu
 simp at hu
 rcases hu with rfl|rfl|rfl
 ·exact⟨uD _,rfl⟩
 ·exact⟨gH _ _ _,rfl⟩
 ·exact⟨gH _ _ _,rfl⟩
theorem pW (hn:fq v) (h1:v.oneCell'=true) (hc:v.cells=#[v]):Fits 1 false (cI v):=by
 intro w u hu
 have hu:u=v:=hu
 subst hu
 refine⟨[u],rfl,rfl,hc,?_⟩
 intro x hx
 simp at hx
 subst hx
 exact⟨hn,h1⟩
theorem fits_int (n:Int):Fits 1 false (pI n):=pW (qp n) rfl rfl
theorem fits_bool (b:Bool):Fits 1 false (pB b):=pW (uD b) rfl rfl
theorem Au (s:ByteArray):Fits 1 false (cI (.string s)):=pW (CL s) rfl rfl
structure Fd where
 agg:Bool
 n:Nat
 p:Pred
def aJ:List Fd->World->List Value->Prop
 |[],_,cs=>cs=[]
 |f::fs,w,cs=>f.n<=cs.length/\f.p w (aA f.agg (cs.take f.n))/\aJ fs w (cs.drop f.n)
def pS (fs:List Fd):Pred:=λw v=>∃cs:List Value,v=.agg cs.toArray/\aJ fs w cs
def bR:List Fd->Nat->Nat
 |[],_=>0
 |_::_,0=>0
 |f::fs,k+1=>f.n+bR fs k
def mj:List Fd->Nat
 |[]=>0
 |f::fs=>f.n+mj fs
theorem gZ:∀{fs:List Fd} {w:World} {cs:List Value},aJ fs w cs->cs.length=mj fs:=by
 intro fs
 induction fs with
 |nil=>intro w cs h; rw[show cs=[]from h]; rfl
 |cons f fs ih=>
  intro w cs h
  obtain⟨h1,_,h3⟩:=h
  have:=ih h3
  rw[List.length_drop]at this
  simp only[mj]
  omega
theorem uP:∀{fs:List Fd} {w:World} {cs:List Value} {k:Nat} {f:Fd},aJ fs w cs->fs[k]?=some f->f.p w (aA f.agg ((cs.drop (bR fs k)).take f.n)):=by
 intro fs
 induction fs with
 |nil=>intro w cs k f _ hk; simp at hk
 |cons g fs ih=>
  intro w cs k f h hk
  obtain⟨h1,h2,h3⟩:=h
  cases k with
  |zero=>simp at hk; subst hk; exact h2
  |succ k=>
   have:=ih h3 (by simpa using hk)
   rw[List.drop_drop]at this
   exact this
variable {cs:List Value}
theorem dF {ds:List Value} (h:aA true cs=aA true ds):cs=ds:=by
 simp only[aA,if_true]at h
 injection h with h
 have:=congrArg Array.toList h
 simpa using this
variable {fs:List Fd}
theorem fE {N:Nat} (k:Nat) {f:Fd} (hk:fs[k]?=some f) {off:Nat} (ho:bR fs k=off):∀w cs,cs.length=N->pS fs w (aA true cs)->f.p w (aA f.agg ((cs.drop off).take f.n)):=by
 rintro w cs _ ⟨ds,e,h⟩
 have:=dF (show aA true cs=aA true ds from e)
 subst this
 rw[<-ho]
 exact uP h hk
theorem CV:∀{fs:List Fd} {w:World} {cs ds:List Value} {k:Nat} {f:Fd} {q:Pred},aJ fs w cs->fs[k]?=some f->ds.length=f.n->q w (aA f.agg ds)->aJ (fs.set k ⟨f.agg,f.n,q⟩) w (cs.take (bR fs k)++ds++cs.drop (bR fs k+f.n)):=by
 intro fs
 induction fs with
 |nil=>intro w cs ds k f q _ hk; simp at hk
 |cons g fs ih=>
  intro w cs ds k f q h hk hl hq
  obtain⟨h1,h2,h3⟩:=h
  cases k with
  |zero=>
   simp at hk
   subst hk
   refine⟨by simp[bR,hl],?_,?_⟩
   ·simp[bR,<-hl]; exact hq
   ·simp[bR,<-hl]
    rw[hl]
    exact h3
  |succ k=>
   have:=ih h3 (by simpa using hk) hl hq
   have hlen:=gZ h3
   refine⟨?_,?_,?_⟩
   ·show g.n<=(cs.take (g.n+bR fs k)++ds++cs.drop (g.n+bR fs k+f.n)).length
    simp only[List.length_append,List.length_take,List.length_drop]
    omega
   ·have e:((cs.take (g.n+bR fs k)++ds++cs.drop (g.n+bR fs k+f.n)).take g.n)=cs.take g.n:=by
     rw[List.append_assoc,List.take_append_of_le_length (by simp; omega),List.take_take]
     congr 1; omega
    show g.p w (aA g.agg ((cs.take (g.n+bR fs k)++ds++cs.drop (g.n+bR fs k+f.n)).take g.n))
    rw[e]; exact h2
   ·show aJ _ w ((cs.take (g.n+bR fs k)++ds++cs.drop (g.n+bR fs k+f.n)).drop g.n)
    have e:((cs.take (g.n+bR fs k)++ds++cs.drop (g.n+bR fs k+f.n)).drop g.n)=(cs.drop g.n).take (bR fs k)++ds++(cs.drop g.n).drop (bR fs k+f.n):=by
     have e1:g.n+bR fs k-g.n=bR fs k:=by omega
     have e2:g.n+(bR fs k+f.n)=g.n+bR fs k+f.n:=by omega
     rw[List.append_assoc,List.drop_append_of_le_length (by simp; omega),List.drop_take,e1,List.append_assoc,List.drop_drop,e2]
    rw[e]; exact this
def bf (a b:Rat):Pred:=pS [⟨true,3,au a⟩,⟨true,3,au b⟩]
theorem Ga (h:∀f∈fs,aB f.p):aB (pS fs):=by
 rintro M w v hM ⟨cs,rfl,hc⟩
 have key:∀(fs:List Fd),(∀f∈fs,aB f.p)->∀cs,aJ fs w cs->aL M (λw=>aJ fs w cs) w:=by
  intro fs
  induction fs with
  |nil=>intro _ cs h w' _; exact h
  |cons f fs ih=>
   rintro hf cs ⟨h1,h2,h3⟩ w' he
   exact⟨h1,hf f (by simp) M w _ hM h2 w' he,ih (λg hg=>hf g (List.mem_cons_of_mem _ hg)) _ h3 w' he⟩
 exactλw' he=>⟨cs,rfl,key fs h cs hc w' he⟩
def lD:List Fd->Prop
 |[]=>True
 |f::fs=>aB f.p/\lD fs
theorem lD.get:∀{fs:List Fd},lD fs->∀f∈fs,aB f.p:=by
 intro fs
 induction fs with
 |nil=>intro _ f hf; cases hf
 |cons g fs ih=>
  intro h f hf
  rcases List.mem_cons.1 hf with rfl|hf
  ·exact h.1
  ·exact ih h.2 f hf
theorem Gb (h:lD fs):aB (pS fs):=Ga h.get
def sE:List Fd->Prop
 |[]=>True
 |f::fs=>Fits f.n f.agg f.p/\sE fs
theorem iO (h:sE fs) {n:Nat} (hn:mj fs=n):Fits n true (pS fs):=by
 rintro w v ⟨cs,rfl,hc⟩
 refine⟨cs,rfl,by rw[<-hn]; exact gZ hc,rfl,?_⟩
 have key:∀(fs:List Fd),sE fs->∀cs,aJ fs w cs->∀u∈cs,fq u/\u.oneCell'=true:=by
  intro fs
  induction fs with
  |nil=>intro _ cs h u hu; rw[show cs=[]from h]at hu; cases hu
  |cons f fs ih=>
   rintro⟨h0,WG⟩ cs ⟨h1,h2,h3⟩ u hu
   rw[<-List.take_append_drop f.n cs,List.mem_append]at hu
   rcases hu with hu|hu
   ·obtain⟨ds,e,hl,hcells,h4⟩:=h0 w _ h2
    have:cs.take f.n=ds:=by
     cases hagg:f.agg with
     |true=>rw[hagg]at e; exact dF e
     |false=>
      rw[hagg]at e hcells
      have rf:=hcells
      rw[e]at rf
      match ds,hl,h4 with
      |[x],hl,h4=>
       have hl':(cs.take f.n).length=1:=by rw[List.length_take]; simp at hl; omega
       match hct:cs.take f.n,hl' with
       |[y],_=>
        rw[hct]at e
        simp only[aA,Bool.false_eq_true,if_false,List.headD_cons]at e
        rw[e]
      |[],hl,_=>
       exfalso
       simp only[aA,Bool.false_eq_true,if_false,List.headD_nil,undef,Value.cells]at rf
       exact absurd (congrArg Array.size rf) (by simp)
      |x::y::ds,hl,h4=>
       exfalso
       have:=h4 x (by simp)
       simp only[aA,Bool.false_eq_true,if_false,List.headD_cons]at rf
       cases x<;>simp[Value.oneCell',Value.cells]at this rf
    rw[this]at hu
    exact h4 u hu
   ·exact ih WG _ h3 u hu
 exact key fs h cs hc
theorem bU (a b:Rat):Fits 6 true (bf a b):=iO (fs:=[⟨true,3,au a⟩,⟨true,3,au b⟩]) ⟨aN a,aN b,trivial⟩ rfl
theorem JL (h:aJ fs w cs):pS fs w (.agg cs.toArray):=⟨cs,rfl,h⟩
def cU (n d:Int):Pred:=pS [⟨false,1,pI n⟩,⟨false,1,pI d⟩]
theorem kN (n d:Int):Fits 2 true (cU n d):=iO (fs:=[⟨false,1,pI n⟩,⟨false,1,pI d⟩]) ⟨fits_int n,fits_int d,trivial⟩ rfl
theorem qv {n d:Int} (h:cU n d w v):v=.agg #[.int .i64 n,.int .i64 d]:=by
 obtain⟨cs,rfl,hc⟩:=h
 have hl:=gZ hc
 match cs,hl,hc with
 |[x,y],_,hc=>
  obtain⟨_,h1,_,h2,_⟩:=hc
  have e1:x=.int .i64 n:=h1
  have e2:y=.int .i64 d:=h2
  rw[e1,e2]
theorem oG (h:aJ fs w cs):pS fs w (.agg cs.toArray):=⟨cs,rfl,h⟩
theorem jj (w:World):aJ [⟨true,3,dr⟩,⟨true,3,dr⟩] w [.bool false,.slice none 0 0,.slice none 0 0,.bool false,.slice none 0 0,.slice none 0 0]:=⟨by simp,trivial,by simp,trivial,rfl⟩
theorem cS (w:World):aJ [⟨true,3,au 0⟩,⟨true,3,au 0⟩] w [.bool false,.slice none 0 0,.slice none 0 0,.bool false,.slice none 0 0,.slice none 0 0]:=⟨by simp,cF _,by simp,cF _,rfl⟩
end Wx

namespace Wx
open Go Go.RowKit
def pF (P:Program) (T:TypeId) (pl:Array (Nat×Nat)) (z:List Value):Prop:=
 ∀parts,P.built T parts=Instr.fill (λi=>pl[i]?) z.toArray parts
theorem Fi (ds:List Value):∀(k:Nat) (cs:List Value) (off:Nat),off+k+ds.length<=cs.length ->
  ((ds.zipIdx k).foldl (λ(cs:Array Value) (q:Value×Nat)=>cs.setIfInBounds (off+q.2) q.1) cs.toArray)=(cs.take (off+k)++ds++cs.drop (off+k+ds.length)).toArray:=by
 induction ds with
 |nil=>intro k cs off _; simp
 |cons d ds ih=>
  intro k cs off h
  simp only[List.zipIdx_cons,List.foldl_cons]
  have e:cs.toArray.setIfInBounds (off+k) d=(cs.set (off+k) d).toArray:=by simp
  rw[e,ih (k+1) (cs.set (off+k) d) off (by simp at h ⊢; omega)]
  congr 1
  have:=list_seg_step cs (off+k) d ds (by simp at h; omega)
  simpa [Nat.add_assoc,Nat.add_comm 1,Nat.add_left_comm 1] using this
def Fd.form (g:Fd):Bool×Nat:=(g.agg,g.n)
def vE (fs:List Fd) (k:Nat) (p:Pred):List Fd:=match fs[k]? with
 |some f=>fs.set k ⟨f.agg,f.n,p⟩
 |none=>fs
def nu:List Fd->List (Nat×Pred)->List Fd
 |fs,[]=>fs
 |fs,(k,p)::r=>nu (vE fs k p) r
def pH (fs:List Fd) (w:World):List (Nat×Value)->List (Nat×Pred)->Prop
 |[],[]=>True
 |(i,v)::vs,(k,p)::ps=>(i=k/\p w v/\∃f,fs[k]?=some f/\Fits f.n f.agg p)/\pH fs w vs ps
 |_,_=>False
variable {fs:List Fd} {k:Nat} {f:Fd} {p:Pred}
theorem Gt (hk:fs[k]?=some f):∀j:Nat,((fs.set k ⟨f.agg,f.n,p⟩)[j]?).map Fd.form=(fs[j]?).map Fd.form:=by
 intro j
 rw[List.getElem?_set]
 by_cases h:k=j
 ·subst h
  simp only[if_true]
  split
  ·rw[hk]; rfl
  ·rename_i hlt
   rw[hk]
   rw[List.getElem?_eq_none (by omega)]at hk
   cases hk
 ·rw[if_neg h]
theorem LR (hk:fs[k]?=some f):∀j,bR (fs.set k ⟨f.agg,f.n,p⟩) j=bR fs j:=by
 induction fs generalizing k with
 |nil=>simp at hk
 |cons g fs ih=>
  intro j
  cases k with
  |zero=>
   simp at hk
   subst hk
   cases j<;>rfl
  |succ k=>
   cases j with
   |zero=>rfl
   |succ j=>simp only[List.set_cons_succ,bR]; rw[ih (by simpa using hk)]
variable {w:World}
theorem pH.shape:∀{vs:List (Nat×Value)} {ps:List (Nat×Pred)} {fs gs:List Fd},(∀j:Nat,(gs[j]?).map Fd.form=(fs[j]?).map Fd.form)->pH fs w vs ps->pH gs w vs ps:=by
 intro vs
 induction vs with
 |nil=>intro ps fs gs h hp; cases ps<;>exact hp
 |cons v vs ih=>
  intro ps fs gs h hp
  cases ps with
  |nil=>exact hp
  |cons q ps=>
   obtain⟨i,v⟩:=v
   obtain⟨k,p⟩:=q
   obtain⟨⟨e,hv,f,hf,hfit⟩,hr⟩:=hp
   refine⟨⟨e,hv,?_⟩,ih h hr⟩
   have:=h k
   rw[hf]at this
   cases hg:gs[k]? with
   |none=>rw[hg]at this; cases this
   |some g=>
    rw[hg]at this
    simp only[Option.map_some,Option.some.injEq,Fd.form,Prod.mk.injEq]at this
    exact⟨g,rfl,by rw[this.1,this.2]; exact hfit⟩
theorem Cm {n:Nat} {agg:Bool} (hf:Fits n agg p) {w:World} {v:Value} (h:p w v):∃cs:List Value,v=aA agg cs/\cs.length=n/\v.cells=cs.toArray:=by
 obtain⟨cs,h1,h2,h3,_⟩:=hf w v h
 exact⟨cs,h1,h2,h3⟩
theorem yC {pl:Nat->Option (Nat×Nat)}:∀(vs:List (Nat×Value)) (ps:List (Nat×Pred)) (fs:List Fd) (cs:List Value),(∀(k:Nat) (f:Fd),fs[k]?=some f->pl k=some (bR fs k,f.n))->aJ fs w cs->pH fs w vs ps ->
  ∃cs':List Value,Instr.fill pl cs.toArray vs=some cs'.toArray/\aJ (nu fs ps) w cs'/\∀w',aJ fs w' cs->pH fs w' vs ps->aJ (nu fs ps) w' cs':=by
 intro vs
 induction vs with
 |nil=>
  intro ps fs cs KE hc hp
  cases ps with
  |nil=>exact⟨cs,rfl,hc,λ_ h _=>h⟩
  |cons q ps=>exact hp.elim
 |cons v vs ih=>
  intro ps fs cs KE hc hp
  cases ps with
  |nil=>exact hp.elim
  |cons q ps=>
   obtain⟨i,v⟩:=v
   obtain⟨k,p⟩:=q
   obtain⟨⟨rfl,hv,f,hf,hfit⟩,hr⟩:=hp
   obtain⟨ds,e,hl,hcells⟩:=Cm hfit hv
   have Fu:∀w',aJ fs w' cs->p w' v->aJ (vE fs i p) w' (cs.take (bR fs i)++ds++cs.drop (bR fs i+f.n)):=λw' h1 h2=>by
    unfold vE
    rw[hf]
    exact CV h1 hf hl (by rw[<-e]; exact h2)
   have hlen:=gZ hc
   have hoff:bR fs i+f.n<=mj fs:=by
    clear KE hr Fu hlen ih hc
    induction fs generalizing i with
    |nil=>simp at hf
    |cons g fs Zy=>
     cases i with
     |zero=>simp at hf; subst hf; simp[bR,mj]
     |succ i=>have:=Zy i (by simpa using hf); simp only[bR,mj]; omega
   have hsh:∀j:Nat,((vE fs i p)[j]?).map Fd.form=(fs[j]?).map Fd.form:=by
    unfold vE; rw[hf]; exact Gt hf
   obtain⟨cs',h1,h2,h3⟩:=ih ps (vE fs i p) (cs.take (bR fs i)++ds++cs.drop (bR fs i+f.n)) (λk g hg=>by
     have h4:=hsh k
     rw[hg]at h4
     cases hk:fs[k]? with
     |none=>rw[hk]at h4; cases h4
     |some g'=>
      rw[hk]at h4
      simp only[Option.map_some,Option.some.injEq,Fd.form,Prod.mk.injEq]at h4
      rw[KE k g' hk,h4.2]
      have:bR (vE fs i p) k=bR fs k:=by unfold vE; rw[hf]; exact LR hf k
      rw[this]) (Fu w hc hv) (hr.shape hsh)
   refine⟨cs',?_,h2,λw' k1 k2=>h3 w' (Fu w' k1 k2.1.2.1) (k2.2.shape hsh)⟩
   have hsz:v.cells.size=f.n:=by rw[hcells]; simpa using hl
   have:=Fi ds 0 cs (bR fs i) (by omega)
   simp only[Nat.add_zero,hl]at this
   unfold Instr.fill
   simp only[KE i f hf,hsz,ne_eq,not_true_eq_false,decide_false,Bool.false_or]
   rw[if_neg (by simp; omega),hcells,show ds.toArray.zipIdx=(ds.zipIdx 0).toArray by simp]
   rw[<-h1,<-this]
   congr 1
   simp
section
variable {P:Program} {ops:Array Oper} {ms:List Nat} {c:eL} {V:List Vr} {A:List Al} {G:List bI} {i:Nat}{d:Nat} {x y:Operand} {ty:TypeId} {pos:String} {aZ:Array Edge}
def bS (ms:List Nat) (G:List bI) (i:Nat) (fs:List Fd):List (Nat×Operand)->List (Nat×Pred)->Prop
 |[],[]=>True
 |(j,x)::xs,(k,p)::ps=>(j=k/\Has ms G i x p/\∃f,fs[k]?=some f/\Fits f.n f.agg p)/\bS ms G i fs xs ps
 |_,_=>False
variable {T:TypeId} {pl:Array (Nat×Nat)} {z:List Value}
theorem gQ {parts:Array (Nat×Operand)} {fs gs:List Fd} {ps:List (Nat×Pred)} (ht:pF P T pl z) (KE:∀(k:Nat) (f:Fd),fs[k]?=some f->pl[k]?=some (bR fs k,f.n)) (hz:∀w,aJ fs w z)
  (hps:bS ms G i fs parts.toList ps) (hg:nu fs ps=gs) (hp:Post G i (pS gs)):
  OpOk P ops ms c V A G i ⟨some d,.build T parts,ty,pos,aZ,none⟩:=
 dW rfl rfl rfl (.inl rfl) hp λL β a w hI hd=>by
  have key:∀(xs:List (Nat×Operand)) (ps:List (Nat×Pred)),bS ms G i fs xs ps->aL (own c V L β) (λw=>pH fs w (xs.map λq=>(q.1,a.eval q.2)) ps) w:=by
   intro xs
   induction xs with
   |nil=>intro ps h; cases ps<;>exactλ_ _=>h
   |cons q xs ih=>
    intro ps h
    obtain⟨j,x⟩:=q
    cases ps with
    |nil=>exact h.elim
    |cons r ps=>
     obtain⟨k,p⟩:=r
     obtain⟨⟨e,h1,h2⟩,h3⟩:=h
     exactλw' he=>⟨⟨e,h1.spec hI hd w' he,h2⟩,ih ps h3 w' he⟩
  have hb:=key _ _ hps
  obtain⟨cs',h1,h2,h3⟩:=yC (pl:=λi=>pl[i]?) _ _ fs z KE (hz w) hb.out
  refine⟨.agg cs'.toArray,w,?_,Below.refl _ _,λw' he=>?_⟩
  ·show(do pure (Next.value (<-Instr.build T (parts.map λ(i,x)=>(i,a.eval x))))).run P w=_
   have e:(parts.map λ(i,x)=>(i,a.eval x)).toList=parts.toList.map λq=>(q.1,a.eval q.2):=by simp
   rw[Sem.run_bind,run_build w T _ cs'.toArray (by rw[e,ht]; exact h1)]
   rfl
  ·rw[<-hg]
   exact oG (h3 w' (hz w') (hb w' he))
theorem LY {p:Pred} (ht:pF P T pl z) (hz:∀w,p w (.agg z.toArray)) (hp:Post G i p):
  OpOk P ops ms c V A G i ⟨some d,.build T #[],ty,pos,aZ,none⟩:=
 LX rfl rfl rfl rfl hp λρ w=>⟨.agg z.toArray,by
  show(do pure (Next.value (<-Instr.build T ((#[]:Array (Nat×Operand)).map λ(i,x)=>(i,ρ x))))).run P w=_
  rw[Sem.run_bind,run_build w T _ z.toArray (by rw[ht]; simp[Instr.fill])]
  rfl,hz⟩
end
def Xv (fs:List Fd) (pl:Array (Nat×Nat)):Bool:=(List.range fs.length).all λk=>match fs[k]? with
 |some f=>pl[k]?==some (bR fs k,f.n)
 |none=>true
theorem fW {fs:List Fd} {pl:Array (Nat×Nat)} (h:Xv fs pl=true):∀(k:Nat) (f:Fd),fs[k]?=some f->pl[k]?=some (bR fs k,f.n):=by
 intro k f hk
 unfold Xv at h
 rw[List.all_eq_true]at h
 have hlt:k<fs.length:=by
  rcases Nat.lt_or_ge k fs.length with h'|h'
  ·exact h'
  ·rw[List.getElem?_eq_none h']at hk; cases hk
 have:=h k (List.mem_range.2 hlt)
 rw[hk]at this
 simpa using this
end Wx

namespace Wx
open Go Go.RowKit
def fL (sz:Nat) (agg:Bool) (p:Pred):Pred:=λw v=>∃(b o:Nat) (cs:List Value),v=.pointer (some ⟨b,o,none⟩)/\cs.length=sz/\(∀j u,cs[j]?=some u->w.cell? ⟨b,o+j,none⟩=some u)/\p w (aA agg cs)
def dK (sz:Nat) (agg:Bool) (n:Nat) (f:Nat->Pred):Pred:=λw v=>∃(A:Option Addr) (cap:Nat),v=.slice A n cap/\n<=cap/\cap<=maxLen /\
 (0<n->∃b o:Nat,A=some ⟨b,o,none⟩/\∀i,i<n->∃cs:List Value,cs.length=sz/\(∀j u,cs[j]?=some u->w.cell? ⟨b,o+i*sz+j,none⟩=some u)/\f i w (aA agg cs))
def nh (l:List Rat):Pred:=dK 3 true l.length λi=>au (l.getD i 0)
variable {M:Nat->Nat->Prop} {w:World} {b o:Nat}
theorem zO {F:World->Prop} {u:Value} (h:aL M F w) (hc:w.cell? ⟨b,o,none⟩=some u) (hno:∀w':World,w'.cell? ⟨b,o,none⟩=some (.int .u64 0)->¬F w'):¬M b o:=by
 intro hm
 have hb:=World.block_lt_of_cell? w _ hc
 simp only[World.cell?]at hc
 cases hbl:w.heap[b]? with
 |none=>rw[hbl]at hc; simp at hc
 |some bl=>
  rw[hbl]at hc
  cases bl with
  |cells cs t fz=>
   simp only at hc
   have ho:o<cs.size:=by
    rcases Nat.lt_or_ge o cs.size with h'|h'
    ·exact h'
    ·rw[Array.getElem?_eq_none h']at hc; simp at hc
   have e:w.heap.setIfInBounds b (.cells (cs.setIfInBounds o (.int .u64 0)) t fz)=w.heap.setIfInBounds b (.cells (cs.setIfInBounds o (.int .u64 0)) t fz):=rfl
   refine hno { w with heap:=w.heap.setIfInBounds b (.cells (cs.setIfInBounds o (.int .u64 0)) t fz) } ?_ (h _ ⟨?_,?_,?_⟩)
   ·simp[World.cell?,hb,ho]
   ·simp
   ·intro k hk hnm
    have hne:b≠k:=λe=>hnm o (e▸hm)
    simp[Array.getElem?_setIfInBounds_ne hne]
   ·intro k j v hnm hv
    by_cases hk:k=b
    ·subst hk
     have hne:o≠j:=λe=>hnm (e▸hm)
     simp only[World.cell?,hbl]at hv
     simp only[World.cell?,Array.getElem?_setIfInBounds_self_of_lt hb]
     simpa [Array.getElem?_setIfInBounds_ne hne] using hv
    ·rw[World.cell?_of_block (w:=w) (by simp[Array.getElem?_setIfInBounds_ne (λe=>hk e.symm)])]
     exact hv
  |_=>simp at hc
theorem Hv {w':World} (he:Ext M w w') {b o:Nat} {u:Value} (h:w.cell? ⟨b,o,none⟩=some u) (hm:¬M b o):w'.cell? ⟨b,o,none⟩=some u:=he.cell b o u hm h
theorem pO {cs ds:List Value} (hl:cs.length=ds.length) (h1:∀j u,cs[j]?=some u->w.cell? ⟨b,o+j,none⟩=some u) (h2:∀j u,ds[j]?=some u->w.cell? ⟨b,o+j,none⟩=some u):cs=ds:=by
 apply List.ext_getElem hl
 intro i hi hi'
 have e1:=h1 i _ (List.getElem?_eq_getElem hi)
 have e2:=h2 i _ (List.getElem?_eq_getElem hi')
 rw[e1]at e2
 injection e2
theorem Bo {sz:Nat} {agg:Bool} {p:Pred} {v:Value} (h1:agg=false->sz=1) (hf:Fits sz agg p) (h:aL M (λw=>fL sz agg p w v) w):
  ∃(b o:Nat) (cs:List Value),v=.pointer (some ⟨b,o,none⟩)/\cs.length=sz/\(∀j u,cs[j]?=some u->w.cell? ⟨b,o+j,none⟩=some u)/\aL M (λw=>p w (aA agg cs)) w:=by
 obtain⟨b,o,cs,rfl,hl,hc,hp⟩:=h.out
 have ER:∀{cs ds:List Value},cs.length=sz->ds.length=sz->aA agg cs=aA agg ds->cs=ds:=by
  intro cs ds e1 e2 e
  cases agg with
  |true=>exact dF e
  |false=>
   have:=h1 rfl
   match cs,ds,e1,e2 with
   |[x],[y],_,_=>simp only[aA,Bool.false_eq_true,if_false,List.headD_cons]at e; rw[e]
   |[],_,e1,_=>simp at e1; omega
   |_::_::_,_,e1,_=>simp at e1; omega
   |[_],[],_,e2=>simp at e2; omega
   |[_],_::_::_,_,e2=>simp at e2; omega
 have hm:∀j u,cs[j]?=some u->¬M b (o+j):=λj u hj=>zO h (hc j u hj) (by
  rintro w' hw' ⟨b',o',cs',e,hl',hc',hp'⟩
  injection e with e
  injection e with e
  injection e with e2 e3
  subst e2 e3
  obtain⟨ds,e4,hl4,_,h4⟩:=hf w' _ hp'
  have e5:=ER hl' hl4 e4
  subst e5
  have hj':j<cs'.length:=by
   rcases Nat.lt_or_ge j cs.length with h'|h'
   ·omega
   ·rw[List.getElem?_eq_none h']at hj; cases hj
  have h6:=hc' j _ (List.getElem?_eq_getElem hj')
  rw[hw']at h6
  injection h6 with h6
  exact((h4 _ (List.getElem_mem hj')).1 0).1 h6.symm)
 refine⟨b,o,cs,rfl,hl,hc,λw' he=>?_⟩
 obtain⟨b',o',cs',e,hl',hc',hp'⟩:=h w' he
 injection e with e
 injection e with e
 injection e with e1 e2
 subst e1 e2
 have:cs=cs':=pO (by omega) (λj u hj=>Hv he (hc j u hj) (hm j u hj)) hc'
 rw[this]; exact hp'
structure oq (P:Program) (T:TypeId) (E:TypeId) (sz:Nat):Prop where
 under:P.underlying T=some (.slice E)
 size:∀w,(Go.sizeOf E).run P w=.ok sz w
section
variable {P:Program} {ops:Array Oper} {ms:List Nat} {c:eL} {V:List Vr} {A:List Al} {G:List bI} {i:Nat} {L:Nat->Bool} {β:Nat->Nat->Prop} {a:Act} {w:World} {o:Oper}{d:Nat} {x y z:Operand} {ty:TypeId} {pos:String} {aZ:Array Edge}{T:TypeId} {sz:Nat} {agg:Bool} {p:Pred}
theorem jz (h:Has ms G i x (fL sz agg p)) (ht:Ty P T agg sz) (hfit:Fits sz agg p) (hp:Post G i p):OpOk P ops ms c V A G i ⟨some d,.load T x,ty,pos,aZ,none⟩:=
 dW rfl rfl rfl (.inl rfl) hp λL β a w hI hd=>by
  obtain⟨b,o,cs,e,hl,hc,hb⟩:=Bo ht.one hfit (h.spec hI hd)
  refine⟨_,w,?_,Below.refl _ _,hb⟩
  show(do pure (Next.value (<-Instr.loadAt T (a.eval x)))).run P w=_
  rw[e,Sem.run_bind,gJ ht hc hl]
  rfl
variable {E:TypeId} {n:Nat} {m:Int}
theorem nr {b off cap:Nat} (ht:oq P T E sz) (h0:0<=m) (h1:m<n):(Instr.indexAt T (.slice (some ⟨b,off,none⟩) n cap) (.int .i64 m)).run P w=.ok (.pointer (some ⟨b,off+m.toNat*sz,none⟩)) w:=by
 have hu:(underlying T).run P w=.ok (.slice E) w:=run_underlying ht.under w
 simp only[Instr.indexAt,asIntOf,pure_bind,Sem.run_bind,hu,Result.andThen_ok]
 rw[if_pos ⟨h0,h1⟩]
 simp only[Sem.run_bind,ht.size,Result.andThen_ok,Sem.run_pure,Addr.add_mid]
variable {f:Nat->Pred}
theorem nc (h:Has ms G i x (dK sz agg n f)) (hy:Has ms G i y (pI m)) (ht:oq P T E sz) (h0:0<=m) (h1:m<n) (hA:(A.all λq=>q.tag != some i)=true) (hp:Post G i (fL sz agg (f m.toNat))):
  OpOk P ops ms c V A G i ⟨some d,.indexAddr T x y,ty,pos,aZ,none⟩:=
 dW rfl rfl rfl (.inr hA) hp λL β a w hI hd=>by
  have hr:=h.spec hI hd
  have hi:a.eval y=.int .i64 m:=(hy.spec hI hd).out
  obtain⟨A',cap,e,hn,hcap,hel⟩:=hr.out
  obtain⟨b,off,rfl,_⟩:=hel (by omega)
  refine⟨.pointer (some ⟨b,off+m.toNat*sz,none⟩),w,?_,Below.refl _ _,λw' he=>?_⟩
  ·show(do pure (Next.value (<-Instr.indexAt T (a.eval x) (a.eval y)))).run P w=_
   rw[e,hi,Sem.run_bind,nr ht h0 h1]
   rfl
  ·obtain⟨A2,gh,e2,_,_,UK⟩:=hr w' he
   rw[e]at e2
   injection e2 with e2
   obtain⟨b2,ZG,e3,UL⟩:=UK (by omega)
   rw[<-e2]at e3
   injection e3 with e3
   injection e3 with e4 e5
   subst e4 e5
   obtain⟨cs,h2,h3,h4⟩:=UL m.toNat (by omega)
   exact⟨_,_,cs,rfl,h2,h3,h4⟩
theorem uN (h:Has ms G i x (dK sz agg n f)) (ht:P.underlying T=some (.slice E)) (hp:Post G i (pI (n:Int))):
  OpOk P ops ms c V A G i ⟨some d,.call ⟨.builtin .len,#[x],#[T]⟩,ty,pos,aZ,none⟩:=
 lR rfl rfl rfl rfl h hp λρ w h=>⟨.int .i64 n,by
  obtain⟨A',cap,e,_⟩:=h
  have hr:(Builtin.len_ #[T] ty #[ρ x]).run P w=.ok (.int .i64 n) w:=by
   rw[e]
   unfold Builtin.len_
   simp[run_underlying ht,goInt]
  show(do let d <-resolve ρ ⟨.builtin .len,#[x],#[T]⟩ ty; invoke d.target d.args).run P w=_
  simp only[resolve,invoke,pure_bind,builtin]
  rw[show(#[x]:Array Operand).map ρ=#[ρ x] by simp,Sem.run_bind,hr]
  rfl,λ_ _=>rfl⟩
variable {fs:List Fd}
theorem Gq {w:World} {g:Nat} {fz:Nat×Nat} {cs:List Value} (hg:w.heap[g]?=some (.cells cs.toArray T fz)) (hc:aJ fs w cs) (hf:∀f∈fs,f.agg=agg/\f.n=sz) (hlen:fs.length<=maxLen) (p:Nat->Pred) (hp:∀(k:Nat) (f:Fd),fs[k]?=some f->f.p=p k):
  dK sz agg fs.length p w (.slice (some ⟨g,0,none⟩) fs.length fs.length):=by
 have hoff:∀(fs:List Fd),(∀f∈fs,f.agg=agg/\f.n=sz)->∀k,k<=fs.length->bR fs k=k*sz:=by
  intro fs
  induction fs with
  |nil=>intro _ k hk; simp at hk; subst hk; simp[bR]
  |cons f fs ih=>
   intro h k hk
   cases k with
   |zero=>simp[bR]
   |succ k=>
    have h1:=(h f (by simp)).2
    have h2:=ih (λg hg=>h g (List.mem_cons_of_mem _ hg)) k (by simp at hk; omega)
    simp only[bR,h1,h2]
    rw[Nat.add_mul,Nat.one_mul,Nat.add_comm]
 refine⟨_,_,rfl,Nat.le_refl _,hlen,λ_=>⟨g,0,rfl,λi hi=>?_⟩⟩
 have hk:=List.getElem?_eq_getElem hi
 obtain⟨e1,e2⟩:=hf _ (List.getElem_mem hi)
 have Rw:=uP hc hk
 have htot:=gZ hc
 have hsz:∀(fs:List Fd),(∀f∈fs,f.agg=agg/\f.n=sz)->mj fs=fs.length*sz:=by
  intro fs
  induction fs with
  |nil=>intro _; simp[mj]
  |cons f fs ih=>intro h; simp only[mj,(h f (by simp)).2,ih (λg hg=>h g (List.mem_cons_of_mem _ hg)),List.length_cons,Nat.add_mul,Nat.one_mul]; omega
 have hs:=hsz fs hf
 have IB:=hoff fs hf i (by omega)
 have hle:i*sz+sz<=fs.length*sz:=by
  have:(i+1)*sz<=fs.length*sz:=Nat.mul_le_mul_right _ hi
  rw[Nat.add_mul,Nat.one_mul]at this; exact this
 refine⟨(cs.drop (i*sz)).take sz,by simp; omega,λj u hj=>?_,?_⟩
 ·have:=jk hg (i*sz) sz j u hj
  rwa [Nat.zero_add]
 ·rw[IB,e1,e2]at Rw
  rw[<-hp i _ hk]
  exact Rw
def Ss (sz:Nat) (agg:Bool) (n:Nat) (f:Nat->Pred):Pred:=λw v=>(∃A:Option Addr,v=.slice A n n)/\dK sz agg n f w v
variable {parts:Array (Nat×Operand)} {zv:Value} {gs:List Fd} {ps:List (Nat×Pred)}
theorem uL {z:List Value} (ht:oq P T E sz) (FB:∀w,(zeroValue E).run P w=.ok zv w) (yR:zv.cells=z.toArray)
  (KC:fs=List.replicate n ⟨agg,sz,p⟩) (hsz:decide (0<sz/\0<n/\n*sz<=16777216)=true) (hz:∀w,p w (aA agg z)) (AG:z.length=sz) (hps:bS ms G i fs parts.toList ps) (hg:nu fs ps=gs) (q:Nat->Pred) (hq:∀(k:Nat) (f:Fd),gs[k]?=some f->f.p=q k) (hp:Post G i (Ss sz agg n q)):
  OpOk P ops ms c V A G i ⟨some d,.buildSlice T n parts,ty,pos,aZ,none⟩:=
 dW rfl rfl rfl (.inl rfl) hp λL β a w hI hd=>by
  obtain⟨hs0,zy,U5⟩:=of_decide_eq_true hsz
  have key:∀(xs:List (Nat×Operand)) (ps:List (Nat×Pred)),bS ms G i fs xs ps->aL (own c V L β) (λw=>pH fs w (xs.map λq=>(q.1,a.eval q.2)) ps) w:=by
   intro xs
   induction xs with
   |nil=>intro ps h; cases ps<;>exactλ_ _=>h
   |cons q xs ih=>
    intro ps h
    obtain⟨j,x⟩:=q
    cases ps with
    |nil=>exact h.elim
    |cons r ps=>
     obtain⟨k,p⟩:=r
     obtain⟨⟨e,h1,h2⟩,h3⟩:=h
     exactλw' he=>⟨⟨e,h1.spec hI hd w' he,h2⟩,ih ps h3 w' he⟩
  have hb:=key _ _ hps
  have yI:∀(n:Nat) (w:World),aJ (List.replicate n ⟨agg,sz,p⟩) w ((List.replicate n z).flatten):=by
   intro n
   induction n with
   |zero=>intro w; rfl
   |succ n ih=>
    intro w
    rw[List.replicate_succ,List.replicate_succ,List.flatten_cons]
    refine⟨by simp[AG],?_,?_⟩
    ·rw[List.take_append_of_le_length (by rw[AG]; exact Nat.le_refl _),List.take_of_length_le (by rw[AG]; exact Nat.le_refl _)]; exact hz w
    ·have e:List.drop sz (z++(List.replicate n z).flatten)=(List.replicate n z).flatten:=by rw[<-AG]; simp
     show aJ _ w (List.drop sz (z++(List.replicate n z).flatten))
     rw[e]; exact ih w
  have hoff:∀k,k<=n->bR fs k=k*sz:=by
   rw[KC]
   clear KC hz hps hg hb key yI U5 zy hsz hp hq
   induction n with
   |zero=>intro k hk; simp at hk; subst hk; simp[bR]
   |succ n ih=>
    intro k hk
    rw[List.replicate_succ]
    cases k with
    |zero=>simp[bR]
    |succ k=>
     simp only[bR,ih k (by omega)]
     rw[Nat.add_mul,Nat.one_mul,Nat.add_comm]
  have Ln:fs.length=n:=by rw[KC]; simp
  have hall:∀f∈fs,f.agg=agg/\f.n=sz:=by
   intro f hf
   rw[KC]at hf
   have:=List.eq_of_mem_replicate hf
   rw[this]; exact⟨rfl,rfl⟩
  obtain⟨cs',h1,h2,h3⟩:=yC (pl:=λi=>some (i*sz,sz)) _ _ fs ((List.replicate n z).flatten) (λk f hk=>by
   have hk':k<n:=by
    rw[<-Ln]
    rcases Nat.lt_or_ge k fs.length with h|h
    ·exact h
    ·rw[List.getElem?_eq_none h]at hk; cases hk
   rw[hoff k (by omega),(hall f (List.mem_of_getElem? hk)).2]) (by rw[KC]; exact yI n w) hb.out
  have M7:∀f∈gs,f.agg=agg/\f.n=sz:=by
   rw[<-hg]
   clear hg h1 h2 h3 hb key hps hq hoff KC Ln
   induction ps generalizing fs with
   |nil=>exact hall
   |cons r ps ih=>
    obtain⟨k,r⟩:=r
    refine ih λf hf=>?_
    unfold vE at hf
    split at hf
    ·rename_i g YY
     rcases List.mem_or_eq_of_mem_set hf with h|h
     ·exact hall f h
     ·rw[h]; exact hall g (List.mem_of_getElem? YY)
    ·exact hall f hf
  have Rx:gs.length=n:=by
   rw[<-hg,<-Ln]
   clear hg h1 h2 h3 hb key hps hq hoff KC Ln M7 hall
   induction ps generalizing fs with
   |nil=>rfl
   |cons r ps ih=>
    obtain⟨k,r⟩:=r
    show(nu (vE fs k r) ps).length=fs.length
    rw[ih]
    unfold vE
    split<;>simp
  rw[hg]at h2 h3
  refine⟨.slice (some ⟨w.heap.size,0,none⟩) n n,w.alloc (.cells cs'.toArray E),?_,Below.alloc (Below.refl _ _) (Nat.le_refl _) _,λw' he=>?_⟩
  ·show(do pure (Next.value (<-Instr.buildSlice T n (parts.map λ(i,x)=>(i,a.eval x))))).run P w=_
   have hu:(underlying T).run P w=.ok (.slice E) w:=run_underlying ht.under w
   have e:(parts.map λ(i,x)=>(i,a.eval x)).toList=parts.toList.map λq=>(q.1,a.eval q.2):=by simp
   have wj:(Array.range (n*sz)).map (λk=>z.toArray[k%z.toArray.size]!)=((List.replicate n z).flatten).toArray:=by
    apply Array.ext
    ·simp[AG]
    ·intro k jE hk2
     simp only[Array.getElem_map,Array.getElem_range,List.size_toArray,AG]
     simp only[List.getElem_toArray]
     have hlt:k%sz<z.length:=by rw[AG]; exact Nat.mod_lt _ hs0
     rw[getElem!_pos z.toArray (k%sz) (by simpa using hlt)]
     have VK:∀(n k:Nat) (h:k<((List.replicate n z).flatten).length),((List.replicate n z).flatten)[k]=z[k%sz]'(by rw[AG]; exact Nat.mod_lt _ hs0):=by
      intro n
      induction n with
      |zero=>intro k h; simp at h
      |succ n ih=>
       intro k h
       simp only[List.replicate_succ,List.flatten_cons]
       by_cases hks:k<sz
       ·rw[List.getElem_append_left (by rw[AG]; exact hks)]
        congr 1
        exact(Nat.mod_eq_of_lt hks).symm
       ·rw[List.getElem_append_right (by rw[AG]; omega)]
        have hk3:k-z.length<((List.replicate n z).flatten).length:=by
         simp only[List.replicate_succ,List.flatten_cons,List.length_append]at h
         omega
        rw[ih (k-z.length) hk3]
        congr 1
        rw[AG]
        exact(Nat.mod_eq_sub_mod (by omega)).symm
     rw[VK n k (by simpa using hk2)]
     simp
   rw[Sem.run_bind]
   have hrun:(Instr.buildSlice T n (parts.map λ(i,x)=>(i,a.eval x))).run P w=.ok (.slice (some ⟨w.heap.size,0,none⟩) n n) (w.alloc (.cells cs'.toArray E)):=by
    simp only[Instr.buildSlice,Sem.run_bind,hu,Result.andThen_ok,ht.size]
    rw[if_neg (by omega),if_neg (by have:=Nat.mul_pos zy hs0; omega)]
    simp only[Sem.run_bind,FB,Result.andThen_ok,Sem.run_pure,yR]
    rw[wj,e,h1]
    simp only[Sem.run_bind,newRow,Sem.run_pure]
    rfl
   rw[hrun]
   rfl
  ·have hgt:w'.heap[w.heap.size]?=some (.cells cs'.toArray E (0,0)):=by
    rw[he.block w.heap.size (by simp) (λo h=>by have:=zb hI h; omega)]
    exact heap_alloc_new _ _
   have he':Ext (own c V L β) w w':=(Ext.dJ (Below.alloc (Below.refl _ _) (Nat.le_refl _) _)).trans he
   have hc':=h3 w' (by rw[KC]; exact yI n w') (hb w' he')
   have:=Gq hgt hc' M7 (by rw[Rx]; unfold maxLen; have:n<=n*sz:=Nat.le_mul_of_pos_right n hs0; omega) q hq
   rw[Rx]at this
   exact⟨⟨_,rfl⟩,this⟩
theorem fB {z:List Value} (ht:oq P T E sz) (FB:∀w,(zeroValue E).run P w=.ok zv w) (yR:zv.cells=z.toArray)
  (KC:fs=List.replicate n ⟨agg,sz,p⟩) (hsz:decide (0<sz/\0<n/\n*sz<=16777216)=true) (hz:∀w,p w (aA agg z)) (AG:z.length=sz) (hps:bS ms G i fs parts.toList ps) (hg:nu fs ps=gs) (q:Nat->Pred) (hq:∀(k:Nat) (f:Fd),gs[k]?=some f->f.p=q k) (hp:Post G i (dK sz agg n q)):
  OpOk P ops ms c V A G i ⟨some d,.buildSlice T n parts,ty,pos,aZ,none⟩:=uL ht FB yR KC hsz hz AG hps hg q hq (by
 cases hp with
 |at_ k s r h hr=>exact .at_ k s r h λw v hp=>hr w v hp.2
 |none h=>exact .none h)
variable {fx:Operand} {ts:Array TypeId}
theorem uM {f:FuncId} {args:Array Operand} (hf:aM P f) (hx:Has ms G i fx (cI (.func (.func f) #[] #[]))) (hp:Post G i p)
  (hc:∀L β a w,bO c V A G L β a w->oB ms i L->Calls P f (args.map a.eval) w (bu (own c V L β) p w)):
  OpOk P ops ms c V A G i ⟨some d,.call ⟨.value fx,args,ts⟩,ty,pos,aZ,none⟩:=by
 refine mh (λL β a w hI hd hwf=>?_) rfl
 have M6:a.eval fx=.func (.func f) #[] #[]:=(hx.spec hI hd).out
 have hr:(execOp a.eval ⟨some d,.call ⟨.value fx,args,ts⟩,ty,pos,aZ,none⟩).run P w=.ok (.enter f (args.map a.eval)) w:=by
  have:=hf (args.map a.eval++#[]) w
  simp only[execOp,resolve,M6,Deferred.ofValue,pure_bind,invoke]
  rw[Array.append_empty]at this
  first|exact this|simpa using this
 unfold Does
 rw[hr]
 refine(hc L β a w hI hd).mono ?_
 rintro e w' ⟨v,rfl,hv,hb⟩
 exact⟨v,rfl,β,hI.value hwf (uz hwf rfl) rfl hb (λd q _ hq GO _=>by have:=hwf.aa q hq GO; cases this) λe he ht=>hv.imp λw=>hp.spec hwf he ht w v⟩
theorem xJ {f:FuncId} {p1 p2:Pred} (hf:aM P f) (hx:Has ms G i fx (cI (.func (.func f) #[] #[]))) (h1:Has ms G i x p1) (h2:Has ms G i y p2) (hp:Post G i p)
  (hc:∀(M:Nat->Nat->Prop) (w:World) (v1 v2:Value),dc M w->aL M (λw=>p1 w v1) w->aL M (λw=>p2 w v2) w->Calls P f #[v1,v2] w (bu M p w)):OpOk P ops ms c V A G i ⟨some d,.call ⟨.value fx,#[x,y],ts⟩,ty,pos,aZ,none⟩:=
 uM hf hx hp λ_ _ a w hI hd=>(by
  rw[show(#[x,y]:Array Operand).map a.eval=#[a.eval x,a.eval y] by simp]
  exact hc _ w _ _ (bX hI) (h1.spec hI hd) (h2.spec hI hd))
theorem Ta {n:Int} (h:-9223372036854775808<=n/\n<=9223372036854775807):∀w v,cI (.int .i64 (IntKind.i64.wrap n)) w v->pI n w v:=λ_ _ e=>by rw[IntWalk.i64_in n h]at e; exact e
end
theorem zi (l:List Rat):∀(k:Nat) (f:Fd),(l.map λq=>(⟨true,3,au q⟩:Fd))[k]?=some f->f.p=au (l.getD k 0):=by
 intro k f hk
 rw[List.getElem?_map]at hk
 cases h:l[k]? with
 |none=>rw[h]at hk; cases hk
 |some q=>
  rw[h]at hk
  simp only[Option.map_some,Option.some.injEq]at hk
  rw[<-hk,List.getD_eq_getElem?_getD,h]
  rfl
def zB (G:List bI):List bI->Prop
 |[]=>True
 |e::es=>(e.tag=none/\e.till=none/\∃(k:Nat) (p:Pred),G[k]?=some ⟨none,none,e.slot,p⟩/\∀w v,p w v->e.p w v)/\zB G es
def zH (V:List Vr):List Vr->Prop
 |[]=>True
 |x::xs=>(∃(k:Nat) (kd:Kd) (p:Rel),V[k]?=some ⟨x.id,x.slot,none,none,kd,x.T,x.n,x.agg,p,[]⟩/\(x.born=none/\x.dead=none/\x.st=[])/\kd=x.kd/\∀F w v,p F w v->x.c0 F w v)/\zH V xs
variable {G:List bI}
theorem zB.get:∀{G':List bI},zB G G'->∀e,e∈G'->e.tag=none/\e.till=none/\∃(k:Nat) (p:Pred),G[k]?=some ⟨none,none,e.slot,p⟩/\∀w v,p w v->e.p w v:=by
 intro G'
 induction G' with
 |nil=>intro _ e he; cases he
 |cons f G' ih=>
  intro h e he
  rcases List.mem_cons.1 he with rfl|he
  ·exact h.1
  ·exact ih h.2 e he
variable {V:List Vr}
theorem zH.get:∀{V':List Vr},zH V V'->∀x,x∈V'->∃(k:Nat) (kd:Kd) (p:Rel),V[k]?=some ⟨x.id,x.slot,none,none,kd,x.T,x.n,x.agg,p,[]⟩/\(x.born=none/\x.dead=none/\x.st=[])/\kd=x.kd/\∀F w v,p F w v->x.c0 F w v:=by
 intro V'
 induction V' with
 |nil=>intro _ x hx; cases hx
 |cons f V' ih=>
  intro h x hx
  rcases List.mem_cons.1 hx with rfl|hx
  ·exact h.1
  ·exact ih h.2 x hx
theorem Inv.conv {c:eL} {V':List Vr} {A:List Al} {G':List bI} {a:Act} {w:World} (h:Inv c V A G none_ a w) (hV:zH V V') (hG:zB G G'):Inv c V' [] G' none_ a w:=by
 obtain⟨β,h⟩:=h
 have eo:∀k o,own c V' none_ β k o->own c V none_ β k o:=by
  rintro k o (h1|⟨x,hx,_,h2,h3⟩)
  ·exact .inl h1
  ·obtain⟨j,kd,p,hj,_,hk,_⟩:=hV.get x hx
   subst hk
   exact .inr ⟨_,List.mem_of_getElem? hj,rfl,h2,h3⟩
 refine⟨β,h.size,h.defers,h.below,h.old,?_,?_,(λp hp=>by cases hp),?_⟩
 ·intro x hx _
  obtain⟨j,kd,p,hj,⟨hb,hdd,hs⟩,dI,hp⟩:=hV.get x hx
  subst dI
  have hv:=h.var _ (List.mem_of_getElem? hj) rfl
  rcases js x.kd with hk|⟨m,sz,hk⟩|hk
  ·obtain⟨g,h1,h2,h3⟩:=(cC (x:=⟨x.id,x.slot,none,none,x.kd,x.T,x.n,x.agg,p,[]⟩) hk).1 hv
   obtain⟨cs,h4,h5,h6,h7⟩:=h3.held
   refine(cC hk).2 ⟨g,h1,h2,h3.new,cs,h4,h5,h6,?_⟩
   rw[hs]
   exact(h7.sub λk o _ hk=>eo k o hk).imp λw=>hp _ w _
  ·exact(cK hk).2 ((cK (x:=⟨x.id,x.slot,none,none,x.kd,x.T,x.n,x.agg,p,[]⟩) hk).1 hv)
  ·obtain⟨h1,h2⟩:=(bh (x:=⟨x.id,x.slot,none,none,x.kd,x.T,x.n,x.agg,p,[]⟩) hk).1 hv
   refine(bh hk).2 ⟨h1,?_⟩
   rw[hs]
   exact(h2.sub λk o _ h=>⟨eo k o h.1,h.2⟩).imp λw=>hp _ w _
 ·intro x y g hx hy _ _ hne
  obtain⟨j,kd,p,hj,_⟩:=hV.get x hx
  obtain⟨j',kd',p',hj',_⟩:=hV.get y hy
  have:=h.apart _ _ g (List.mem_of_getElem? hj) (List.mem_of_getElem? hj') rfl rfl hne
  exact this
 ·intro e he _ _
  obtain⟨_,_,k,p,hk,hp⟩:=hG.get e he
  exact((h.kH _ (List.mem_of_getElem? hk) rfl rfl).sub λk o _ hk=>eo k o hk).imp λw=>hp w _
end Wx
