import Derived.Deep.RegionHeld3
import Derived.Test.YtikkgpljpglnbaaGreatJRM11
import Derived.Laws.Tables
namespace Wx
open Go Go.RowKit Go.Proofs
variable {w w':World} {g:Nat} {x y z:Value} {e:TypeId}
theorem ck.gone (h:ck w g x y z e) (hb:Below w.heap.size w w'):ck w' g x y z e:=by
 refine h.below hb ?_
 unfold ck at h
 rcases Nat.lt_or_ge g w.heap.size with h1|h1
 ·exact h1
 ·rw[Array.getElem?_eq_none h1]at h; cases h
theorem gI (w:World) (x y z:Value) (e:TypeId):∃w',w.alloc (.cells #[x,y,z] e)=w'/\ck w' w.heap.size x y z e/\Below w.heap.size w w'/\w'.heap.size=w.heap.size+1:=
 ⟨_,rfl,ck.new _ _ _ _ _,Below.alloc (Below.refl _ _) (Nat.le_refl _) _,by simp⟩
theorem oA (q:Rat):q.num.natAbs=0↔q=0:=by
 rw[Int.natAbs_eq_zero]
 exact Rat.num_eq_zero
theorem zero_num (w:World) (v:Value) (q:Rat) (h:bW w v q):Calls Tryz.prog 29 #[v] w (eZ w (.bool (decide (q=0)))):=by
 obtain⟨vn,vd,rfl,h1,h2⟩:=h
 obtain⟨A1,c1,rfl,_⟩:=id h1
 obtain⟨A2,c2,rfl,_⟩:=id h2
 have hz:(((af b64 q.num.natAbs).length:Int)==0)=decide (q=0):=by
  by_cases hq:q=0
  ·rw[hq,decide_eq_true rfl]; rfl
  ·rw[decide_eq_false hq,beq_eq_false_iff_ne]
   have:=(aX (n:=q.num.natAbs) ak).2 (by have:=mt (oA q).1 hq; omega)
   omega
 generalize (af b64 q.num.natAbs).length=L1 at *
 go_enter Tryz.func29,Tryz.ntmps29
 go_wp2
 go_ret
 exact⟨rfl,Below.alloc (Below.refl _ _) (Nat.le_refl _) _⟩
@[irreducible] def cv (w : World) (a : Addr) : Value := (w.cell? a).getD (.bool false)
theorem E8 {a:Addr} {v:Value} (h:w.cell? a=some v):w.cell? a=some (cv w a):=by unfold cv; rw[h]; rfl
def kJ (v:Value):Prop:=∀k n,v≠.int k n
theorem eK (b:Bool):kJ (.bool b):=by intro k n h; cases h
theorem bC (A:Option Addr) (l c:Nat):kJ (.slice A l c):=by intro k n h; cases h
def bf (w:World) (r:Nat) (e:TypeId) (ps:List (Nat×Value×Value×Value)) (w':World):Prop:=
 Below w.heap.size w w'/\w.heap.size<=r/\(∀p∈ps,p.1≠r/\ck w' p.1 p.2.1 p.2.2.1 p.2.2.2 e)/\∃a b c,ck w' r a b c e/\kJ a/\kJ b/\kJ c
variable {r:Nat} {ps:List (Nat×Value×Value×Value)} {p:Prop}
theorem bf.call {w'':World} (h:bf w r e ps w'/\p) (hb:Below w'.heap.size w' w''):bf w r e ps w'':=by
 obtain⟨⟨h1,h2,h3,a,b,c,h4,h5⟩,_⟩:=h
 exact⟨h1.trans (hb.mono h1.size),h2,λp hp=>⟨(h3 p hp).1,(h3 p hp).2.gone hb⟩,a,b,c,h4.gone hb,h5⟩
theorem bf.drew (h:bf w r e ps w'):bf w r e ps w'.drew:=by
 obtain⟨h1,h2,h3,h4⟩:=h
 exact⟨h1.drew,h2,h3,h4⟩
theorem ck.Nx (h:ck w g x y z e) (hr:g≠r) (i:Nat) (u:Value):ck (w.setCell ⟨r,i,none⟩ u) g x y z e:=(Below.heap_setCell w ⟨r,i,none⟩ u g hr).trans h
theorem bf.JJ (h:bf w r e ps w') {u:Value} (hu:kJ u):bf w r e ps (w'.setCell ⟨r,0,none⟩ u):=by
 obtain⟨h1,h2,h3,a,b,c,h4,h5,h6,h7⟩:=h
 exact⟨h1.setCell h2 _,h2,λp hp=>⟨(h3 p hp).1,(h3 p hp).2.Nx (h3 p hp).1 _ _⟩,u,b,c,h4.JJ u,hu,h6,h7⟩
theorem bf.JK (h:bf w r e ps w') {u:Value} (hu:kJ u):bf w r e ps (w'.setCell ⟨r,1,none⟩ u):=by
 obtain⟨h1,h2,h3,a,b,c,h4,h5,h6,h7⟩:=h
 exact⟨h1.setCell h2 _,h2,λp hp=>⟨(h3 p hp).1,(h3 p hp).2.Nx (h3 p hp).1 _ _⟩,a,u,c,h4.JK u,h5,hu,h7⟩
theorem bf.JL (h:bf w r e ps w') {u:Value} (hu:kJ u):bf w r e ps (w'.setCell ⟨r,2,none⟩ u):=by
 obtain⟨h1,h2,h3,a,b,c,h4,h5,h6,h7⟩:=h
 exact⟨h1.setCell h2 _,h2,λp hp=>⟨(h3 p hp).1,(h3 p hp).2.Nx (h3 p hp).1 _ _⟩,a,b,u,h4.JL u,h5,h6,hu⟩
theorem bf.sets (h:bf w r e ps w'/\p) (b:Bool) (A1 A2:Option Addr) (l1 l2 c1 c2:Nat):
  bf w r e ps (((w'.setCell ⟨r,0,none⟩ (.bool b)).setCell ⟨r,1,none⟩ (.slice A1 l1 c1)).setCell ⟨r,2,none⟩ (.slice A2 l2 c2)):=
 ((h.1.JJ (eK _)).JK (bC _ _ _)).JL (bC _ _ _)
theorem bf.cells (h:bf w r e ps w'):
  w'.cell? ⟨r,0,none⟩=some (cv w' ⟨r,0,none⟩)/\w'.cell? ⟨r,1,none⟩=some (cv w' ⟨r,1,none⟩)/\w'.cell? ⟨r,2,none⟩=some (cv w' ⟨r,2,none⟩)/\w'.frozen? ⟨r,0,none⟩=false/\w'.frozen? ⟨r,1,none⟩=false/\w'.frozen? ⟨r,2,none⟩=false:=by
 obtain⟨_,_,_,a,b,c,h4,_⟩:=h
 exact⟨E8 h4.c0,E8 h4.c1,E8 h4.c2,h4.fz 0,h4.fz 1,h4.fz 2⟩
theorem bf.fin {q:Rat} {neg:Bool} {A1 A2:Option Addr} {l1 l2 c1 c2:Nat} (h:bf w r e ps w') (hn:decide (q.num<0)=neg) (h1:cI .u64 b64 w' (.slice A1 l1 c1) q.num.natAbs) (h2:cI .u64 b64 w' (.slice A2 l2 c2) (az q.den)):
  ∃wf,((w'.setCell ⟨r,0,none⟩ (.bool neg)).setCell ⟨r,1,none⟩ (.slice A1 l1 c1)).setCell ⟨r,2,none⟩ (.slice A2 l2 c2)=wf/\wf.cell? ⟨r,0,none⟩=some (.bool neg)/\wf.cell? ⟨r,1,none⟩=some (.slice A1 l1 c1)/\wf.cell? ⟨r,2,none⟩=some (.slice A2 l2 c2) /\
   kK w q (.returned (.agg #[.bool neg,.slice A1 l1 c1,.slice A2 l2 c2])) wf:=by
 obtain⟨g1,g2,_,a,b,c,h4,h5,h6,h7⟩:=h
 exact oJ g2 g1 h4 h5 h6 h7 hn h1 h2
end Wx

namespace Wx
open Go Go.RowKit
variable {M:Nat->Nat->Prop} {w:World} {k:IntKind}
theorem M6 {A:Option Addr} {c:Nat} {l:List Nat} (hM:cR M w) (hk:k=.u64\/k=.u32) (h:Rd w k A c l):aM M (λw=>Rd w k A c l) w:=by
 intro w' he
 obtain⟨h1,h2,h3⟩:=h
 refine⟨h1,h2,λhne=>?_⟩
 obtain⟨b,o,e,hc⟩:=h3 hne
 refine⟨b,o,e,λi hi=>he.cell b (o+i) _ (λhm=>?_) (hc i hi)⟩
 have:=(hM b (o+i) hm).2 _ (hc i hi)
 rcases hk with rfl|rfl
 ·exact(this _).1 rfl
 ·exact(this _).2 rfl
variable {v:Value}
theorem oz {b n:Nat} (hM:cR M w) (hk:k=.u64\/k=.u32) (h:cI k b w v n):aM M (λw=>cI k b w v n) w:=by
 obtain⟨A,c,rfl,hr⟩:=h
 exactλw' he=>⟨A,c,rfl,M6 hM hk hr w' he⟩
def bu (q:Rat):Pred:=λw v=>bW w v q
theorem dc (q:Rat):aA (bu q):=by
 rintro M w v hM ⟨vn,vd,rfl,h1,h2⟩ w' he
 exact⟨vn,vd,rfl,oz hM (.inl rfl) h1 w' he,oz hM (.inl rfl) h2 w' he⟩
theorem sW (b:Bool):gv (.bool b):=λ_=>⟨(by simp),by simp⟩
theorem fQ (A:Option Addr) (l c:Nat):gv (.slice A l c):=λ_=>⟨(by simp),by simp⟩
theorem me (n:Int):gv (.int .i64 n):=λ_=>⟨(by simp),by simp⟩
theorem Gh (n:Int):gv (.int .u8 n):=λ_=>⟨(by simp),by simp⟩
theorem A9 (s:ByteArray):gv (.string s):=λ_=>⟨(by simp),by simp⟩
theorem kU (q:Rat):Fits 3 true (bu q):=by
 rintro w v ⟨vn,vd,rfl,h1,h2⟩
 obtain⟨A,c,rfl,_⟩:=h1
 obtain⟨B,d,rfl,_⟩:=h2
 refine⟨[_,_,_],rfl,rfl,rfl,?_⟩
 intro u hu
 simp at hu
 rcases hu with rfl|rfl|rfl
 ·exact⟨sW _,rfl⟩
 ·exact⟨fQ _ _ _,rfl⟩
 ·exact⟨fQ _ _ _,rfl⟩
theorem jO (hn:gv v) (h1:v.oneCell'=true) (hc:v.cells=#[v]):Fits 1 false (bp v):=by
 intro w u hu
 have hu:u=v:=hu
 subst hu
 refine⟨[u],rfl,rfl,hc,?_⟩
 intro x hx
 simp at hx
 subst hx
 exact⟨hn,h1⟩
theorem fits_int (n:Int):Fits 1 false (pI n):=jO (me n) rfl rfl
theorem fits_bool (b:Bool):Fits 1 false (pB b):=jO (sW b) rfl rfl
theorem yq (s:ByteArray):Fits 1 false (bp (.string s)):=jO (A9 s) rfl rfl
structure Fd where
 agg:Bool
 n:Nat
 p:Pred
def aI:List Fd->World->List Value->Prop
 |[],_,cs=>cs=[]
 |f::fs,w,cs=>f.n<=cs.length/\f.p w (au f.agg (cs.take f.n))/\aI fs w (cs.drop f.n)
def pS (fs:List Fd):Pred:=λw v=>∃cs:List Value,v=.agg cs.toArray/\aI fs w cs
def bg:List Fd->Nat->Nat
 |[],_=>0
 |_::_,0=>0
 |f::fs,k+1=>f.n+bg fs k
def kC:List Fd->Nat
 |[]=>0
 |f::fs=>f.n+kC fs
theorem jY:∀{fs:List Fd} {w:World} {cs:List Value},aI fs w cs->cs.length=kC fs:=by
 intro fs
 induction fs with
 |nil=>intro w cs h; rw[show cs=[]from h]; rfl
 |cons f fs ih=>
  intro w cs h
  obtain⟨h1,_,h3⟩:=h
  have:=ih h3
  rw[List.length_drop]at this
  simp only[kC]
  omega
theorem tn:∀{fs:List Fd} {w:World} {cs:List Value} {k:Nat} {f:Fd},aI fs w cs->fs[k]?=some f->f.p w (au f.agg ((cs.drop (bg fs k)).take f.n)):=by
 intro fs
 induction fs with
 |nil=>intro w cs k f _ hk; simp at hk
 |cons g fs ih=>
  intro w cs k f h hk
  obtain⟨h1,h2,h3⟩:=h
  cases k with
  |zero=>simp at hk; subst hk; exact h2
  |succ k=>
   have:=ih h3 (by simpa using hk)
   rw[List.drop_drop]at this
   exact this
variable {cs:List Value}
theorem cg {ds:List Value} (h:au true cs=au true ds):cs=ds:=by
 simp only[au,if_true]at h
 injection h with h
 have:=congrArg Array.toList h
 simpa using this
variable {fs:List Fd}
theorem jM {N:Nat} (k:Nat) {f:Fd} (hk:fs[k]?=some f) {off:Nat} (ho:bg fs k=off):∀w cs,cs.length=N->pS fs w (au true cs)->f.p w (au f.agg ((cs.drop off).take f.n)):=by
 rintro w cs _ ⟨ds,e,h⟩
 have:=cg (show au true cs=au true ds from e)
 subst this
 rw[<-ho]
 exact tn h hk
theorem Bp:∀{fs:List Fd} {w:World} {cs ds:List Value} {k:Nat} {f:Fd} {q:Pred},aI fs w cs->fs[k]?=some f->ds.length=f.n->q w (au f.agg ds)->aI (fs.set k ⟨f.agg,f.n,q⟩) w (cs.take (bg fs k)++ds++cs.drop (bg fs k+f.n)):=by
 intro fs
 induction fs with
 |nil=>intro w cs ds k f q _ hk; simp at hk
 |cons g fs ih=>
  intro w cs ds k f q h hk hl hq
  obtain⟨h1,h2,h3⟩:=h
  cases k with
  |zero=>
   simp at hk
   subst hk
   refine⟨by simp[bg,hl],?_,?_⟩
   ·simp[bg,<-hl]; exact hq
   ·simp[bg,<-hl]
    rw[hl]
    exact h3
  |succ k=>
   have:=ih h3 (by simpa using hk) hl hq
   have hlen:=jY h3
   refine⟨?_,?_,?_⟩
   ·show g.n<=(cs.take (g.n+bg fs k)++ds++cs.drop (g.n+bg fs k+f.n)).length
    simp only[List.length_append,List.length_take,List.length_drop]
    omega
   ·have e:((cs.take (g.n+bg fs k)++ds++cs.drop (g.n+bg fs k+f.n)).take g.n)=cs.take g.n:=by
     rw[List.append_assoc,List.take_append_of_le_length (by simp; omega),List.take_take]
     congr 1; omega
    show g.p w (au g.agg ((cs.take (g.n+bg fs k)++ds++cs.drop (g.n+bg fs k+f.n)).take g.n))
    rw[e]; exact h2
   ·show aI _ w ((cs.take (g.n+bg fs k)++ds++cs.drop (g.n+bg fs k+f.n)).drop g.n)
    have e:((cs.take (g.n+bg fs k)++ds++cs.drop (g.n+bg fs k+f.n)).drop g.n)=(cs.drop g.n).take (bg fs k)++ds++(cs.drop g.n).drop (bg fs k+f.n):=by
     have e1:g.n+bg fs k-g.n=bg fs k:=by omega
     have e2:g.n+(bg fs k+f.n)=g.n+bg fs k+f.n:=by omega
     rw[List.append_assoc,List.drop_append_of_le_length (by simp; omega),List.drop_take,e1,List.append_assoc,List.drop_drop,e2]
    rw[e]; exact this
theorem DW (h:∀f∈fs,aA f.p):aA (pS fs):=by
 rintro M w v hM ⟨cs,rfl,hc⟩
 have key:∀(fs:List Fd),(∀f∈fs,aA f.p)->∀cs,aI fs w cs->aM M (λw=>aI fs w cs) w:=by
  intro fs
  induction fs with
  |nil=>intro _ cs h w' _; exact h
  |cons f fs ih=>
   rintro hf cs ⟨h1,h2,h3⟩ w' he
   exact⟨h1,hf f (by simp) M w _ hM h2 w' he,ih (λg hg=>hf g (List.mem_cons_of_mem _ hg)) _ h3 w' he⟩
 exactλw' he=>⟨cs,rfl,key fs h cs hc w' he⟩
def jD:List Fd->Prop
 |[]=>True
 |f::fs=>aA f.p/\jD fs
theorem jD.get:∀{fs:List Fd},jD fs->∀f∈fs,aA f.p:=by
 intro fs
 induction fs with
 |nil=>intro _ f hf; cases hf
 |cons g fs ih=>
  intro h f hf
  rcases List.mem_cons.1 hf with rfl|hf
  ·exact h.1
  ·exact ih h.2 f hf
theorem DX (h:jD fs):aA (pS fs):=DW h.get
def qT:List Fd->Prop
 |[]=>True
 |f::fs=>Fits f.n f.agg f.p/\qT fs
theorem pL (h:qT fs) {n:Nat} (hn:kC fs=n):Fits n true (pS fs):=by
 rintro w v ⟨cs,rfl,hc⟩
 refine⟨cs,rfl,by rw[<-hn]; exact jY hc,rfl,?_⟩
 have key:∀(fs:List Fd),qT fs->∀cs,aI fs w cs->∀u∈cs,gv u/\u.oneCell'=true:=by
  intro fs
  induction fs with
  |nil=>intro _ cs h u hu; rw[show cs=[]from h]at hu; cases hu
  |cons f fs ih=>
   rintro⟨h0,VG⟩ cs ⟨h1,h2,h3⟩ u hu
   rw[<-List.take_append_drop f.n cs,List.mem_append]at hu
   rcases hu with hu|hu
   ·obtain⟨ds,e,hl,hcells,h4⟩:=h0 w _ h2
    have:cs.take f.n=ds:=by
     cases hagg:f.agg with
     |true=>rw[hagg]at e; exact cg e
     |false=>
      rw[hagg]at e hcells
      have xq:=hcells
      rw[e]at xq
      match ds,hl,h4 with
      |[x],hl,h4=>
       have hl':(cs.take f.n).length=1:=by rw[List.length_take]; simp at hl; omega
       match hct:cs.take f.n,hl' with
       |[y],_=>
        rw[hct]at e
        simp only[au,Bool.false_eq_true,if_false,List.headD_cons]at e
        rw[e]
      |[],hl,_=>
       exfalso
       simp only[au,Bool.false_eq_true,if_false,List.headD_nil,undef,Value.cells]at xq
       exact absurd (congrArg Array.size xq) (by simp)
      |x::y::ds,hl,h4=>
       exfalso
       have:=h4 x (by simp)
       simp only[au,Bool.false_eq_true,if_false,List.headD_cons]at xq
       cases x<;>simp[Value.oneCell',Value.cells]at this xq
    rw[this]at hu
    exact h4 u hu
   ·exact ih VG _ h3 u hu
 exact key fs h cs hc
theorem MS (h:aI fs w cs):pS fs w (.agg cs.toArray):=⟨cs,rfl,h⟩
theorem P5 (h:aI fs w cs):pS fs w (.agg cs.toArray):=⟨cs,rfl,h⟩
end Wx

namespace Wx
open Go Go.RowKit
theorem Dq (ds:List Value):∀(k:Nat) (cs:List Value) (off:Nat),off+k+ds.length<=cs.length ->
  ((ds.zipIdx k).foldl (λ(cs:Array Value) (q:Value×Nat)=>cs.setIfInBounds (off+q.2) q.1) cs.toArray)=(cs.take (off+k)++ds++cs.drop (off+k+ds.length)).toArray:=by
 induction ds with
 |nil=>intro k cs off _; simp
 |cons d ds ih=>
  intro k cs off h
  simp only[List.zipIdx_cons,List.foldl_cons]
  have e:cs.toArray.setIfInBounds (off+k) d=(cs.set (off+k) d).toArray:=by simp
  rw[e,ih (k+1) (cs.set (off+k) d) off (by simp at h ⊢; omega)]
  congr 1
  have:=list_seg_step cs (off+k) d ds (by simp at h; omega)
  simpa [Nat.add_assoc,Nat.add_comm 1,Nat.add_left_comm 1] using this
def Fd.form (g:Fd):Bool×Nat:=(g.agg,g.n)
def tK (fs:List Fd) (k:Nat) (p:Pred):List Fd:=match fs[k]? with
 |some f=>fs.set k ⟨f.agg,f.n,p⟩
 |none=>fs
def mF:List Fd->List (Nat×Pred)->List Fd
 |fs,[]=>fs
 |fs,(k,p)::r=>mF (tK fs k p) r
def qi (fs:List Fd) (w:World):List (Nat×Value)->List (Nat×Pred)->Prop
 |[],[]=>True
 |(i,v)::vs,(k,p)::ps=>(i=k/\p w v/\∃f,fs[k]?=some f/\Fits f.n f.agg p)/\qi fs w vs ps
 |_,_=>False
variable {fs:List Fd} {k:Nat} {f:Fd} {p:Pred}
theorem Eh (hk:fs[k]?=some f):∀j:Nat,((fs.set k ⟨f.agg,f.n,p⟩)[j]?).map Fd.form=(fs[j]?).map Fd.form:=by
 intro j
 rw[List.getElem?_set]
 by_cases h:k=j
 ·subst h
  simp only[if_true]
  split
  ·rw[hk]; rfl
  ·rename_i hlt
   rw[hk]
   rw[List.getElem?_eq_none (by omega)]at hk
   cases hk
 ·rw[if_neg h]
theorem Jv (hk:fs[k]?=some f):∀j,bg (fs.set k ⟨f.agg,f.n,p⟩) j=bg fs j:=by
 induction fs generalizing k with
 |nil=>simp at hk
 |cons g fs ih=>
  intro j
  cases k with
  |zero=>
   simp at hk
   subst hk
   cases j<;>rfl
  |succ k=>
   cases j with
   |zero=>rfl
   |succ j=>simp only[List.set_cons_succ,bg]; rw[ih (by simpa using hk)]
variable {w:World}
theorem qi.shape:∀{vs:List (Nat×Value)} {ps:List (Nat×Pred)} {fs gs:List Fd},(∀j:Nat,(gs[j]?).map Fd.form=(fs[j]?).map Fd.form)->qi fs w vs ps->qi gs w vs ps:=by
 intro vs
 induction vs with
 |nil=>intro ps fs gs h hp; cases ps<;>exact hp
 |cons v vs ih=>
  intro ps fs gs h hp
  cases ps with
  |nil=>exact hp
  |cons q ps=>
   obtain⟨i,v⟩:=v
   obtain⟨k,p⟩:=q
   obtain⟨⟨e,hv,f,hf,hfit⟩,hr⟩:=hp
   refine⟨⟨e,hv,?_⟩,ih h hr⟩
   have:=h k
   rw[hf]at this
   cases hg:gs[k]? with
   |none=>rw[hg]at this; cases this
   |some g=>
    rw[hg]at this
    simp only[Option.map_some,Option.some.injEq,Fd.form,Prod.mk.injEq]at this
    exact⟨g,rfl,by rw[this.1,this.2]; exact hfit⟩
theorem AB {n:Nat} {agg:Bool} (hf:Fits n agg p) {w:World} {v:Value} (h:p w v):∃cs:List Value,v=au agg cs/\cs.length=n/\v.cells=cs.toArray:=by
 obtain⟨cs,h1,h2,h3,_⟩:=hf w v h
 exact⟨cs,h1,h2,h3⟩
theorem Ci {pl:Nat->Option (Nat×Nat)}:∀(vs:List (Nat×Value)) (ps:List (Nat×Pred)) (fs:List Fd) (cs:List Value),(∀(k:Nat) (f:Fd),fs[k]?=some f->pl k=some (bg fs k,f.n))->aI fs w cs->qi fs w vs ps ->
  ∃cs':List Value,Instr.fill pl cs.toArray vs=some cs'.toArray/\aI (mF fs ps) w cs'/\∀w',aI fs w' cs->qi fs w' vs ps->aI (mF fs ps) w' cs':=by
 intro vs
 induction vs with
 |nil=>
  intro ps fs cs KD hc hp
  cases ps with
  |nil=>exact⟨cs,rfl,hc,λ_ h _=>h⟩
  |cons q ps=>exact hp.elim
 |cons v vs ih=>
  intro ps fs cs KD hc hp
  cases ps with
  |nil=>exact hp.elim
  |cons q ps=>
   obtain⟨i,v⟩:=v
   obtain⟨k,p⟩:=q
   obtain⟨⟨rfl,hv,f,hf,hfit⟩,hr⟩:=hp
   obtain⟨ds,e,hl,hcells⟩:=AB hfit hv
   have yD:∀w',aI fs w' cs->p w' v->aI (tK fs i p) w' (cs.take (bg fs i)++ds++cs.drop (bg fs i+f.n)):=λw' h1 h2=>by
    unfold tK
    rw[hf]
    exact Bp h1 hf hl (by rw[<-e]; exact h2)
   have hlen:=jY hc
   have hoff:bg fs i+f.n<=kC fs:=by
    clear KD hr yD hlen ih hc
    induction fs generalizing i with
    |nil=>simp at hf
    |cons g fs WY=>
     cases i with
     |zero=>simp at hf; subst hf; simp[bg,kC]
     |succ i=>have:=WY i (by simpa using hf); simp only[bg,kC]; omega
   have hsh:∀j:Nat,((tK fs i p)[j]?).map Fd.form=(fs[j]?).map Fd.form:=by
    unfold tK; rw[hf]; exact Eh hf
   obtain⟨cs',h1,h2,h3⟩:=ih ps (tK fs i p) (cs.take (bg fs i)++ds++cs.drop (bg fs i+f.n)) (λk g hg=>by
     have h4:=hsh k
     rw[hg]at h4
     cases hk:fs[k]? with
     |none=>rw[hk]at h4; cases h4
     |some g'=>
      rw[hk]at h4
      simp only[Option.map_some,Option.some.injEq,Fd.form,Prod.mk.injEq]at h4
      rw[KD k g' hk,h4.2]
      have:bg (tK fs i p) k=bg fs k:=by unfold tK; rw[hf]; exact Jv hf k
      rw[this]) (yD w hc hv) (hr.shape hsh)
   refine⟨cs',?_,h2,λw' k1 k2=>h3 w' (yD w' k1 k2.1.2.1) (k2.2.shape hsh)⟩
   have hsz:v.cells.size=f.n:=by rw[hcells]; simpa using hl
   have:=Dq ds 0 cs (bg fs i) (by omega)
   simp only[Nat.add_zero,hl]at this
   unfold Instr.fill
   simp only[KD i f hf,hsz,ne_eq,not_true_eq_false,decide_false,Bool.false_or]
   rw[if_neg (by simp; omega),hcells,show ds.toArray.zipIdx=(ds.zipIdx 0).toArray by simp]
   rw[<-h1,<-this]
   congr 1
   simp
section
variable {P:Program} {ops:Array Oper} {ms:List Nat} {c:cM} {V:List Vr} {A:List Al} {G:List aV} {i:Nat}{d:Nat} {x y:Operand} {ty:TypeId} {pos:String} {aL:Array Edge}
def dI (ms:List Nat) (G:List aV) (i:Nat) (fs:List Fd):List (Nat×Operand)->List (Nat×Pred)->Prop
 |[],[]=>True
 |(j,x)::xs,(k,p)::ps=>(j=k/\Has ms G i x p/\∃f,fs[k]?=some f/\Fits f.n f.agg p)/\dI ms G i fs xs ps
 |_,_=>False
end
end Wx
