import Derived.Deep.RegionHeld3
import Derived.Test.YtadigiledciihaaGreatJRR11
import Derived.Laws.Tables
namespace Wx
open Go Go.RowKit Go.Proofs
variable {w w':World} {g:Nat} {x y z:Value} {e:TypeId}
theorem cq.gone (h:cq w g x y z e) (hb:Below w.heap.size w w'):cq w' g x y z e:=by
 refine h.below hb ?_
 unfold cq at h
 rcases Nat.lt_or_ge g w.heap.size with h1|h1
 ·exact h1
 ·rw[Array.getElem?_eq_none h1]at h; cases h
theorem gj (w:World) (x y z:Value) (e:TypeId):∃w',w.alloc (.cells #[x,y,z] e)=w'/\cq w' w.heap.size x y z e/\Below w.heap.size w w'/\w'.heap.size=w.heap.size+1:=
 ⟨_,rfl,cq.new _ _ _ _ _,Below.alloc (Below.refl _ _) (Nat.le_refl _) _,by simp⟩
theorem jG (q:Rat):q.num.natAbs=0↔q=0:=by
 rw[Int.natAbs_eq_zero]
 exact Rat.num_eq_zero
theorem zero_num (w:World) (v:Value) (q:Rat) (h:cg w v q):Calls Tryz.prog 48 #[v] w (dW w (.bool (decide (q=0)))):=by
 obtain⟨vn,vd,rfl,h1,h2⟩:=h
 obtain⟨A1,c1,rfl,_⟩:=id h1
 obtain⟨A2,c2,rfl,_⟩:=id h2
 have hz:(((ae b64 q.num.natAbs).length:Int)==0)=decide (q=0):=by
  by_cases hq:q=0
  ·rw[hq,decide_eq_true rfl]; rfl
  ·rw[decide_eq_false hq,beq_eq_false_iff_ne]
   have:=(aD (n:=q.num.natAbs) ah).2 (by have:=mt (jG q).1 hq; omega)
   omega
 generalize (ae b64 q.num.natAbs).length=L1 at *
 go_enter Tryz.func48,Tryz.ntmps48
 go_wp2
 go_ret
 exact⟨rfl,Below.alloc (Below.refl _ _) (Nat.le_refl _) _⟩
theorem D3 (q:Rat):decide ((-q).num<0)=(!decide (q.num<0)&&!decide (q=0)):=by
 rw[Rat.neg_num]
 have:=Rat.num_eq_zero (q:=q)
 by_cases h:q=0
 ·simp[h]
 ·have h1:=mt this.1 h
  rw[decide_eq_false h]
  by_cases h2:q.num<0
  ·simp[h2]; omega
  ·simp[h2]; omega
@[irreducible] def cv (w : World) (a : Addr) : Value := (w.cell? a).getD (.bool false)
theorem z8 {a:Addr} {v:Value} (h:w.cell? a=some v):w.cell? a=some (cv w a):=by unfold cv; rw[h]; rfl
def dB (v:Value):Prop:=∀k n,v≠.int k n
theorem dw (b:Bool):dB (.bool b):=by intro k n h; cases h
theorem aX (A:Option Addr) (l c:Nat):dB (.slice A l c):=by intro k n h; cases h
def bj (w:World) (r:Nat) (e:TypeId) (ps:List (Nat×Value×Value×Value)) (w':World):Prop:=
 Below w.heap.size w w'/\w.heap.size<=r/\(∀p∈ps,p.1≠r/\cq w' p.1 p.2.1 p.2.2.1 p.2.2.2 e)/\∃a b c,cq w' r a b c e/\dB a/\dB b/\dB c
variable {r:Nat} {ps:List (Nat×Value×Value×Value)} {p:Prop}
theorem bj.call {w'':World} (h:bj w r e ps w'/\p) (hb:Below w'.heap.size w' w''):bj w r e ps w'':=by
 obtain⟨⟨h1,h2,h3,a,b,c,h4,h5⟩,_⟩:=h
 exact⟨h1.trans (hb.mono h1.size),h2,λp hp=>⟨(h3 p hp).1,(h3 p hp).2.gone hb⟩,a,b,c,h4.gone hb,h5⟩
theorem bj.drew (h:bj w r e ps w'):bj w r e ps w'.drew:=by
 obtain⟨h1,h2,h3,h4⟩:=h
 exact⟨h1.drew,h2,h3,h4⟩
theorem cq.FO (h:cq w g x y z e) (hr:g≠r) (i:Nat) (u:Value):cq (w.setCell ⟨r,i,none⟩ u) g x y z e:=(Below.heap_setCell w ⟨r,i,none⟩ u g hr).trans h
theorem bj.GO (h:bj w r e ps w') {u:Value} (hu:dB u):bj w r e ps (w'.setCell ⟨r,0,none⟩ u):=by
 obtain⟨h1,h2,h3,a,b,c,h4,h5,h6,h7⟩:=h
 exact⟨h1.setCell h2 _,h2,λp hp=>⟨(h3 p hp).1,(h3 p hp).2.FO (h3 p hp).1 _ _⟩,u,b,c,h4.GO u,hu,h6,h7⟩
theorem bj.GQ (h:bj w r e ps w') {u:Value} (hu:dB u):bj w r e ps (w'.setCell ⟨r,1,none⟩ u):=by
 obtain⟨h1,h2,h3,a,b,c,h4,h5,h6,h7⟩:=h
 exact⟨h1.setCell h2 _,h2,λp hp=>⟨(h3 p hp).1,(h3 p hp).2.FO (h3 p hp).1 _ _⟩,a,u,c,h4.GQ u,h5,hu,h7⟩
theorem bj.GR (h:bj w r e ps w') {u:Value} (hu:dB u):bj w r e ps (w'.setCell ⟨r,2,none⟩ u):=by
 obtain⟨h1,h2,h3,a,b,c,h4,h5,h6,h7⟩:=h
 exact⟨h1.setCell h2 _,h2,λp hp=>⟨(h3 p hp).1,(h3 p hp).2.FO (h3 p hp).1 _ _⟩,a,b,u,h4.GR u,h5,h6,hu⟩
theorem bj.sets (h:bj w r e ps w'/\p) (b:Bool) (A1 A2:Option Addr) (l1 l2 c1 c2:Nat):
  bj w r e ps (((w'.setCell ⟨r,0,none⟩ (.bool b)).setCell ⟨r,1,none⟩ (.slice A1 l1 c1)).setCell ⟨r,2,none⟩ (.slice A2 l2 c2)):=
 ((h.1.GO (dw _)).GQ (aX _ _ _)).GR (aX _ _ _)
theorem bj.cells (h:bj w r e ps w'):
  w'.cell? ⟨r,0,none⟩=some (cv w' ⟨r,0,none⟩)/\w'.cell? ⟨r,1,none⟩=some (cv w' ⟨r,1,none⟩)/\w'.cell? ⟨r,2,none⟩=some (cv w' ⟨r,2,none⟩)/\w'.frozen? ⟨r,0,none⟩=false/\w'.frozen? ⟨r,1,none⟩=false/\w'.frozen? ⟨r,2,none⟩=false:=by
 obtain⟨_,_,_,a,b,c,h4,_⟩:=h
 exact⟨z8 h4.c0,z8 h4.c1,z8 h4.c2,h4.fz 0,h4.fz 1,h4.fz 2⟩
theorem bj.fin {q:Rat} {neg:Bool} {A1 A2:Option Addr} {l1 l2 c1 c2:Nat} (h:bj w r e ps w') (hn:decide (q.num<0)=neg) (h1:aY .u64 b64 w' (.slice A1 l1 c1) q.num.natAbs) (h2:aY .u64 b64 w' (.slice A2 l2 c2) (aq q.den)):
  ∃wf,((w'.setCell ⟨r,0,none⟩ (.bool neg)).setCell ⟨r,1,none⟩ (.slice A1 l1 c1)).setCell ⟨r,2,none⟩ (.slice A2 l2 c2)=wf/\wf.cell? ⟨r,0,none⟩=some (.bool neg)/\wf.cell? ⟨r,1,none⟩=some (.slice A1 l1 c1)/\wf.cell? ⟨r,2,none⟩=some (.slice A2 l2 c2) /\
   kr w q (.returned (.agg #[.bool neg,.slice A1 l1 c1,.slice A2 l2 c2])) wf:=by
 obtain⟨g1,g2,_,a,b,c,h4,h5,h6,h7⟩:=h
 exact nL g2 g1 h4 h5 h6 h7 hn h1 h2
end Wx

namespace Wx
open Go Go.RowKit
variable {M:Nat->Nat->Prop} {w:World} {k:IntKind}
theorem Kz {A:Option Addr} {c:Nat} {l:List Nat} (hM:da M w) (hk:k=.u64\/k=.u32) (h:Rd w k A c l):aP M (λw=>Rd w k A c l) w:=by
 intro w' he
 obtain⟨h1,h2,h3⟩:=h
 refine⟨h1,h2,λhne=>?_⟩
 obtain⟨b,o,e,hc⟩:=h3 hne
 refine⟨b,o,e,λi hi=>he.cell b (o+i) _ (λhm=>?_) (hc i hi)⟩
 have:=(hM b (o+i) hm).2 _ (hc i hi)
 rcases hk with rfl|rfl
 ·exact(this _).1 rfl
 ·exact(this _).2 rfl
variable {v:Value}
theorem lS {b n:Nat} (hM:da M w) (hk:k=.u64\/k=.u32) (h:aY k b w v n):aP M (λw=>aY k b w v n) w:=by
 obtain⟨A,c,rfl,hr⟩:=h
 exactλw' he=>⟨A,c,rfl,Kz hM hk hr w' he⟩
def bA (q:Rat):Pred:=λw v=>cg w v q
theorem dy (q:Rat):aA (bA q):=by
 rintro M w v hM ⟨vn,vd,rfl,h1,h2⟩ w' he
 exact⟨vn,vd,rfl,lS hM (.inl rfl) h1 w' he,lS hM (.inl rfl) h2 w' he⟩
theorem rq (b:Bool):gK (.bool b):=λ_=>⟨(by simp),by simp⟩
theorem eI (A:Option Addr) (l c:Nat):gK (.slice A l c):=λ_=>⟨(by simp),by simp⟩
theorem nF (n:Int):gK (.int .i64 n):=λ_=>⟨(by simp),by simp⟩
theorem y7 (s:ByteArray):gK (.string s):=λ_=>⟨(by simp),by simp⟩
theorem kM (q:Rat):Fits 3 true (bA q):=by
 rintro w v ⟨vn,vd,rfl,h1,h2⟩
 obtain⟨A,c,rfl,_⟩:=h1
 obtain⟨B,d,rfl,_⟩:=h2
 refine⟨[_,_,_],rfl,rfl,rfl,?_⟩
 intro u hu
 simp at hu
 rcases hu with rfl|rfl|rfl
 ·exact⟨rq _,rfl⟩
 ·exact⟨eI _ _ _,rfl⟩
 ·exact⟨eI _ _ _,rfl⟩
theorem mZ (hn:gK v) (h1:v.oneCell'=true) (hc:v.cells=#[v]):Fits 1 false (bN v):=by
 intro w u hu
 have hu:u=v:=hu
 subst hu
 refine⟨[u],rfl,rfl,hc,?_⟩
 intro x hx
 simp at hx
 subst hx
 exact⟨hn,h1⟩
theorem fits_int (n:Int):Fits 1 false (pI n):=mZ (nF n) rfl rfl
theorem fits_bool (b:Bool):Fits 1 false (pB b):=mZ (rq b) rfl rfl
theorem wP (s:ByteArray):Fits 1 false (bN (.string s)):=mZ (y7 s) rfl rfl
structure Fd where
 agg:Bool
 n:Nat
 p:Pred
def aH:List Fd->World->List Value->Prop
 |[],_,cs=>cs=[]
 |f::fs,w,cs=>f.n<=cs.length/\f.p w (ak f.agg (cs.take f.n))/\aH fs w (cs.drop f.n)
def pS (fs:List Fd):Pred:=λw v=>∃cs:List Value,v=.agg cs.toArray/\aH fs w cs
def bt:List Fd->Nat->Nat
 |[],_=>0
 |_::_,0=>0
 |f::fs,k+1=>f.n+bt fs k
def ki:List Fd->Nat
 |[]=>0
 |f::fs=>f.n+ki fs
theorem gY:∀{fs:List Fd} {w:World} {cs:List Value},aH fs w cs->cs.length=ki fs:=by
 intro fs
 induction fs with
 |nil=>intro w cs h; rw[show cs=[]from h]; rfl
 |cons f fs ih=>
  intro w cs h
  obtain⟨h1,_,h3⟩:=h
  have:=ih h3
  rw[List.length_drop]at this
  simp only[ki]
  omega
theorem rJ:∀{fs:List Fd} {w:World} {cs:List Value} {k:Nat} {f:Fd},aH fs w cs->fs[k]?=some f->f.p w (ak f.agg ((cs.drop (bt fs k)).take f.n)):=by
 intro fs
 induction fs with
 |nil=>intro w cs k f _ hk; simp at hk
 |cons g fs ih=>
  intro w cs k f h hk
  obtain⟨h1,h2,h3⟩:=h
  cases k with
  |zero=>simp at hk; subst hk; exact h2
  |succ k=>
   have:=ih h3 (by simpa using hk)
   rw[List.drop_drop]at this
   exact this
variable {cs:List Value}
theorem ck {ds:List Value} (h:ak true cs=ak true ds):cs=ds:=by
 simp only[ak,if_true]at h
 injection h with h
 have:=congrArg Array.toList h
 simpa using this
variable {fs:List Fd}
theorem ej {N:Nat} (k:Nat) {f:Fd} (hk:fs[k]?=some f) {off:Nat} (ho:bt fs k=off):∀w cs,cs.length=N->pS fs w (ak true cs)->f.p w (ak f.agg ((cs.drop off).take f.n)):=by
 rintro w cs _ ⟨ds,e,h⟩
 have:=ck (show ak true cs=ak true ds from e)
 subst this
 rw[<-ho]
 exact rJ h hk
theorem zi:∀{fs:List Fd} {w:World} {cs ds:List Value} {k:Nat} {f:Fd} {q:Pred},aH fs w cs->fs[k]?=some f->ds.length=f.n->q w (ak f.agg ds)->aH (fs.set k ⟨f.agg,f.n,q⟩) w (cs.take (bt fs k)++ds++cs.drop (bt fs k+f.n)):=by
 intro fs
 induction fs with
 |nil=>intro w cs ds k f q _ hk; simp at hk
 |cons g fs ih=>
  intro w cs ds k f q h hk hl hq
  obtain⟨h1,h2,h3⟩:=h
  cases k with
  |zero=>
   simp at hk
   subst hk
   refine⟨by simp[bt,hl],?_,?_⟩
   ·simp[bt,<-hl]; exact hq
   ·simp[bt,<-hl]
    rw[hl]
    exact h3
  |succ k=>
   have:=ih h3 (by simpa using hk) hl hq
   have hlen:=gY h3
   refine⟨?_,?_,?_⟩
   ·show g.n<=(cs.take (g.n+bt fs k)++ds++cs.drop (g.n+bt fs k+f.n)).length
    simp only[List.length_append,List.length_take,List.length_drop]
    omega
   ·have e:((cs.take (g.n+bt fs k)++ds++cs.drop (g.n+bt fs k+f.n)).take g.n)=cs.take g.n:=by
     rw[List.append_assoc,List.take_append_of_le_length (by simp; omega),List.take_take]
     congr 1; omega
    show g.p w (ak g.agg ((cs.take (g.n+bt fs k)++ds++cs.drop (g.n+bt fs k+f.n)).take g.n))
    rw[e]; exact h2
   ·show aH _ w ((cs.take (g.n+bt fs k)++ds++cs.drop (g.n+bt fs k+f.n)).drop g.n)
    have e:((cs.take (g.n+bt fs k)++ds++cs.drop (g.n+bt fs k+f.n)).drop g.n)=(cs.drop g.n).take (bt fs k)++ds++(cs.drop g.n).drop (bt fs k+f.n):=by
     have e1:g.n+bt fs k-g.n=bt fs k:=by omega
     have e2:g.n+(bt fs k+f.n)=g.n+bt fs k+f.n:=by omega
     rw[List.append_assoc,List.drop_append_of_le_length (by simp; omega),List.drop_take,e1,List.append_assoc,List.drop_drop,e2]
    rw[e]; exact this
theorem B8 (h:∀f∈fs,aA f.p):aA (pS fs):=by
 rintro M w v hM ⟨cs,rfl,hc⟩
 have key:∀(fs:List Fd),(∀f∈fs,aA f.p)->∀cs,aH fs w cs->aP M (λw=>aH fs w cs) w:=by
  intro fs
  induction fs with
  |nil=>intro _ cs h w' _; exact h
  |cons f fs ih=>
   rintro hf cs ⟨h1,h2,h3⟩ w' he
   exact⟨h1,hf f (by simp) M w _ hM h2 w' he,ih (λg hg=>hf g (List.mem_cons_of_mem _ hg)) _ h3 w' he⟩
 exactλw' he=>⟨cs,rfl,key fs h cs hc w' he⟩
def ju:List Fd->Prop
 |[]=>True
 |f::fs=>aA f.p/\ju fs
theorem ju.get:∀{fs:List Fd},ju fs->∀f∈fs,aA f.p:=by
 intro fs
 induction fs with
 |nil=>intro _ f hf; cases hf
 |cons g fs ih=>
  intro h f hf
  rcases List.mem_cons.1 hf with rfl|hf
  ·exact h.1
  ·exact ih h.2 f hf
theorem B9 (h:ju fs):aA (pS fs):=B8 h.get
def pL:List Fd->Prop
 |[]=>True
 |f::fs=>Fits f.n f.agg f.p/\pL fs
theorem oq (h:pL fs) {n:Nat} (hn:ki fs=n):Fits n true (pS fs):=by
 rintro w v ⟨cs,rfl,hc⟩
 refine⟨cs,rfl,by rw[<-hn]; exact gY hc,rfl,?_⟩
 have key:∀(fs:List Fd),pL fs->∀cs,aH fs w cs->∀u∈cs,gK u/\u.oneCell'=true:=by
  intro fs
  induction fs with
  |nil=>intro _ cs h u hu; rw[show cs=[]from h]at hu; cases hu
  |cons f fs ih=>
   rintro⟨h0,Ri⟩ cs ⟨h1,h2,h3⟩ u hu
   rw[<-List.take_append_drop f.n cs,List.mem_append]at hu
   rcases hu with hu|hu
   ·obtain⟨ds,e,hl,hcells,h4⟩:=h0 w _ h2
    have:cs.take f.n=ds:=by
     cases hagg:f.agg with
     |true=>rw[hagg]at e; exact ck e
     |false=>
      rw[hagg]at e hcells
      have pD:=hcells
      rw[e]at pD
      match ds,hl,h4 with
      |[x],hl,h4=>
       have hl':(cs.take f.n).length=1:=by rw[List.length_take]; simp at hl; omega
       match hct:cs.take f.n,hl' with
       |[y],_=>
        rw[hct]at e
        simp only[ak,Bool.false_eq_true,if_false,List.headD_cons]at e
        rw[e]
      |[],hl,_=>
       exfalso
       simp only[ak,Bool.false_eq_true,if_false,List.headD_nil,undef,Value.cells]at pD
       exact absurd (congrArg Array.size pD) (by simp)
      |x::y::ds,hl,h4=>
       exfalso
       have:=h4 x (by simp)
       simp only[ak,Bool.false_eq_true,if_false,List.headD_cons]at pD
       cases x<;>simp[Value.oneCell',Value.cells]at this pD
    rw[this]at hu
    exact h4 u hu
   ·exact ih Ri _ h3 u hu
 exact key fs h cs hc
theorem Ep (h:aH fs w cs):pS fs w (.agg cs.toArray):=⟨cs,rfl,h⟩
theorem Nb (h:aH fs w cs):pS fs w (.agg cs.toArray):=⟨cs,rfl,h⟩
end Wx

namespace Wx
open Go Go.RowKit
theorem Bq (ds:List Value):∀(k:Nat) (cs:List Value) (off:Nat),off+k+ds.length<=cs.length ->
  ((ds.zipIdx k).foldl (λ(cs:Array Value) (q:Value×Nat)=>cs.setIfInBounds (off+q.2) q.1) cs.toArray)=(cs.take (off+k)++ds++cs.drop (off+k+ds.length)).toArray:=by
 induction ds with
 |nil=>intro k cs off _; simp
 |cons d ds ih=>
  intro k cs off h
  simp only[List.zipIdx_cons,List.foldl_cons]
  have e:cs.toArray.setIfInBounds (off+k) d=(cs.set (off+k) d).toArray:=by simp
  rw[e,ih (k+1) (cs.set (off+k) d) off (by simp at h ⊢; omega)]
  congr 1
  have:=list_seg_step cs (off+k) d ds (by simp at h; omega)
  simpa [Nat.add_assoc,Nat.add_comm 1,Nat.add_left_comm 1] using this
def Fd.form (g:Fd):Bool×Nat:=(g.agg,g.n)
def r6 (fs:List Fd) (k:Nat) (p:Pred):List Fd:=match fs[k]? with
 |some f=>fs.set k ⟨f.agg,f.n,p⟩
 |none=>fs
def me:List Fd->List (Nat×Pred)->List Fd
 |fs,[]=>fs
 |fs,(k,p)::r=>me (r6 fs k p) r
def oL (fs:List Fd) (w:World):List (Nat×Value)->List (Nat×Pred)->Prop
 |[],[]=>True
 |(i,v)::vs,(k,p)::ps=>(i=k/\p w v/\∃f,fs[k]?=some f/\Fits f.n f.agg p)/\oL fs w vs ps
 |_,_=>False
variable {fs:List Fd} {k:Nat} {f:Fd} {p:Pred}
theorem Cq (hk:fs[k]?=some f):∀j:Nat,((fs.set k ⟨f.agg,f.n,p⟩)[j]?).map Fd.form=(fs[j]?).map Fd.form:=by
 intro j
 rw[List.getElem?_set]
 by_cases h:k=j
 ·subst h
  simp only[if_true]
  split
  ·rw[hk]; rfl
  ·rename_i hlt
   rw[hk]
   rw[List.getElem?_eq_none (by omega)]at hk
   cases hk
 ·rw[if_neg h]
theorem Gy (hk:fs[k]?=some f):∀j,bt (fs.set k ⟨f.agg,f.n,p⟩) j=bt fs j:=by
 induction fs generalizing k with
 |nil=>simp at hk
 |cons g fs ih=>
  intro j
  cases k with
  |zero=>
   simp at hk
   subst hk
   cases j<;>rfl
  |succ k=>
   cases j with
   |zero=>rfl
   |succ j=>simp only[List.set_cons_succ,bt]; rw[ih (by simpa using hk)]
variable {w:World}
theorem oL.shape:∀{vs:List (Nat×Value)} {ps:List (Nat×Pred)} {fs gs:List Fd},(∀j:Nat,(gs[j]?).map Fd.form=(fs[j]?).map Fd.form)->oL fs w vs ps->oL gs w vs ps:=by
 intro vs
 induction vs with
 |nil=>intro ps fs gs h hp; cases ps<;>exact hp
 |cons v vs ih=>
  intro ps fs gs h hp
  cases ps with
  |nil=>exact hp
  |cons q ps=>
   obtain⟨i,v⟩:=v
   obtain⟨k,p⟩:=q
   obtain⟨⟨e,hv,f,hf,hfit⟩,hr⟩:=hp
   refine⟨⟨e,hv,?_⟩,ih h hr⟩
   have:=h k
   rw[hf]at this
   cases hg:gs[k]? with
   |none=>rw[hg]at this; cases this
   |some g=>
    rw[hg]at this
    simp only[Option.map_some,Option.some.injEq,Fd.form,Prod.mk.injEq]at this
    exact⟨g,rfl,by rw[this.1,this.2]; exact hfit⟩
theorem yF {n:Nat} {agg:Bool} (hf:Fits n agg p) {w:World} {v:Value} (h:p w v):∃cs:List Value,v=ak agg cs/\cs.length=n/\v.cells=cs.toArray:=by
 obtain⟨cs,h1,h2,h3,_⟩:=hf w v h
 exact⟨cs,h1,h2,h3⟩
theorem Af {pl:Nat->Option (Nat×Nat)}:∀(vs:List (Nat×Value)) (ps:List (Nat×Pred)) (fs:List Fd) (cs:List Value),(∀(k:Nat) (f:Fd),fs[k]?=some f->pl k=some (bt fs k,f.n))->aH fs w cs->oL fs w vs ps ->
  ∃cs':List Value,Instr.fill pl cs.toArray vs=some cs'.toArray/\aH (me fs ps) w cs'/\∀w',aH fs w' cs->oL fs w' vs ps->aH (me fs ps) w' cs':=by
 intro vs
 induction vs with
 |nil=>
  intro ps fs cs Iq hc hp
  cases ps with
  |nil=>exact⟨cs,rfl,hc,λ_ h _=>h⟩
  |cons q ps=>exact hp.elim
 |cons v vs ih=>
  intro ps fs cs Iq hc hp
  cases ps with
  |nil=>exact hp.elim
  |cons q ps=>
   obtain⟨i,v⟩:=v
   obtain⟨k,p⟩:=q
   obtain⟨⟨rfl,hv,f,hf,hfit⟩,hr⟩:=hp
   obtain⟨ds,e,hl,hcells⟩:=yF hfit hv
   have BB:∀w',aH fs w' cs->p w' v->aH (r6 fs i p) w' (cs.take (bt fs i)++ds++cs.drop (bt fs i+f.n)):=λw' h1 h2=>by
    unfold r6
    rw[hf]
    exact zi h1 hf hl (by rw[<-e]; exact h2)
   have hlen:=gY hc
   have hoff:bt fs i+f.n<=ki fs:=by
    clear Iq hr BB hlen ih hc
    induction fs generalizing i with
    |nil=>simp at hf
    |cons g fs T6=>
     cases i with
     |zero=>simp at hf; subst hf; simp[bt,ki]
     |succ i=>have:=T6 i (by simpa using hf); simp only[bt,ki]; omega
   have hsh:∀j:Nat,((r6 fs i p)[j]?).map Fd.form=(fs[j]?).map Fd.form:=by
    unfold r6; rw[hf]; exact Cq hf
   obtain⟨cs',h1,h2,h3⟩:=ih ps (r6 fs i p) (cs.take (bt fs i)++ds++cs.drop (bt fs i+f.n)) (λk g hg=>by
     have h4:=hsh k
     rw[hg]at h4
     cases hk:fs[k]? with
     |none=>rw[hk]at h4; cases h4
     |some g'=>
      rw[hk]at h4
      simp only[Option.map_some,Option.some.injEq,Fd.form,Prod.mk.injEq]at h4
      rw[Iq k g' hk,h4.2]
      have:bt (r6 fs i p) k=bt fs k:=by unfold r6; rw[hf]; exact Gy hf k
      rw[this]) (BB w hc hv) (hr.shape hsh)
   refine⟨cs',?_,h2,λw' k1 k2=>h3 w' (BB w' k1 k2.1.2.1) (k2.2.shape hsh)⟩
   have hsz:v.cells.size=f.n:=by rw[hcells]; simpa using hl
   have:=Bq ds 0 cs (bt fs i) (by omega)
   simp only[Nat.add_zero,hl]at this
   unfold Instr.fill
   simp only[Iq i f hf,hsz,ne_eq,not_true_eq_false,decide_false,Bool.false_or]
   rw[if_neg (by simp; omega),hcells,show ds.toArray.zipIdx=(ds.zipIdx 0).toArray by simp]
   rw[<-h1,<-this]
   congr 1
   simp
section
variable {P:Program} {ops:Array Oper} {ms:List Nat} {c:dg} {V:List Vr} {A:List Al} {G:List aV} {i:Nat}{d:Nat} {x y:Operand} {ty:TypeId} {pos:String} {aO:Array Edge}
def dV (ms:List Nat) (G:List aV) (i:Nat) (fs:List Fd):List (Nat×Operand)->List (Nat×Pred)->Prop
 |[],[]=>True
 |(j,x)::xs,(k,p)::ps=>(j=k/\Has ms G i x p/\∃f,fs[k]?=some f/\Fits f.n f.agg p)/\dV ms G i fs xs ps
 |_,_=>False
end
end Wx
