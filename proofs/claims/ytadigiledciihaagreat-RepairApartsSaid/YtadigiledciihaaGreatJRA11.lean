import Derived.Deep.RegionHeld3
import Derived.Test.YtadigiledciihaaGreatJRA10
import Derived.Laws.Tables
import Derived.IntWalk
namespace Wx
open Go Go.RowKit Go.Proofs
variable {w w':World} {g:Nat} {x y z:Value} {e:TypeId}
theorem cH.gone (h:cH w g x y z e) (hb:Below w.heap.size w w'):cH w' g x y z e:=by
 refine h.below hb ?_
 unfold cH at h
 rcases Nat.lt_or_ge g w.heap.size with h1|h1
 ·exact h1
 ·rw[Array.getElem?_eq_none h1]at h; cases h
theorem ic (w:World) (x y z:Value) (e:TypeId):∃w',w.alloc (.cells #[x,y,z] e)=w'/\cH w' w.heap.size x y z e/\Below w.heap.size w w'/\w'.heap.size=w.heap.size+1:=
 ⟨_,rfl,cH.new _ _ _ _ _,Below.alloc (Below.refl _ _) (Nat.le_refl _) _,by simp⟩
theorem iw (q:Rat):q.num.natAbs=0↔q=0:=by
 rw[Int.natAbs_eq_zero]
 exact Rat.num_eq_zero
theorem zero_num (w:World) (v:Value) (q:Rat) (h:cB w v q):Calls Tryz.prog 48 #[v] w (eK w (.bool (decide (q=0)))):=by
 obtain⟨vn,vd,rfl,h1,h2⟩:=h
 obtain⟨A1,c1,rfl,_⟩:=id h1
 obtain⟨A2,c2,rfl,_⟩:=id h2
 have hz:(((ae b64 q.num.natAbs).length:Int)==0)=decide (q=0):=by
  by_cases hq:q=0
  ·rw[hq,decide_eq_true rfl]; rfl
  ·rw[decide_eq_false hq,beq_eq_false_iff_ne]
   have:=(aI (n:=q.num.natAbs) ai).2 (by have:=mt (iw q).1 hq; omega)
   omega
 generalize (ae b64 q.num.natAbs).length=L1 at *
 go_enter Tryz.func48,Tryz.ntmps48
 go_wp2
 go_ret
 exact⟨rfl,Below.alloc (Below.refl _ _) (Nat.le_refl _) _⟩
theorem GX (q:Rat):decide ((-q).num<0)=(!decide (q.num<0)&&!decide (q=0)):=by
 rw[Rat.neg_num]
 have:=Rat.num_eq_zero (q:=q)
 by_cases h:q=0
 ·simp[h]
 ·have h1:=mt this.1 h
  rw[decide_eq_false h]
  by_cases h2:q.num<0
  ·simp[h2]; omega
  ·simp[h2]; omega
@[irreducible] def cv (w : World) (a : Addr) : Value := (w.cell? a).getD (.bool false)
theorem Cw {a:Addr} {v:Value} (h:w.cell? a=some v):w.cell? a=some (cv w a):=by unfold cv; rw[h]; rfl
def dW (v:Value):Prop:=∀k n,v≠.int k n
theorem dQ (b:Bool):dW (.bool b):=by intro k n h; cases h
theorem bh (A:Option Addr) (l c:Nat):dW (.slice A l c):=by intro k n h; cases h
def bt (w:World) (r:Nat) (e:TypeId) (ps:List (Nat×Value×Value×Value)) (w':World):Prop:=
 Below w.heap.size w w'/\w.heap.size<=r/\(∀p∈ps,p.1≠r/\cH w' p.1 p.2.1 p.2.2.1 p.2.2.2 e)/\∃a b c,cH w' r a b c e/\dW a/\dW b/\dW c
variable {r:Nat} {ps:List (Nat×Value×Value×Value)} {p:Prop}
theorem bt.call {w'':World} (h:bt w r e ps w'/\p) (hb:Below w'.heap.size w' w''):bt w r e ps w'':=by
 obtain⟨⟨h1,h2,h3,a,b,c,h4,h5⟩,_⟩:=h
 exact⟨h1.trans (hb.mono h1.size),h2,λp hp=>⟨(h3 p hp).1,(h3 p hp).2.gone hb⟩,a,b,c,h4.gone hb,h5⟩
theorem bt.drew (h:bt w r e ps w'):bt w r e ps w'.drew:=by
 obtain⟨h1,h2,h3,h4⟩:=h
 exact⟨h1.drew,h2,h3,h4⟩
theorem cH.Jj (h:cH w g x y z e) (hr:g≠r) (i:Nat) (u:Value):cH (w.setCell ⟨r,i,none⟩ u) g x y z e:=(Below.heap_setCell w ⟨r,i,none⟩ u g hr).trans h
theorem bt.Kb (h:bt w r e ps w') {u:Value} (hu:dW u):bt w r e ps (w'.setCell ⟨r,0,none⟩ u):=by
 obtain⟨h1,h2,h3,a,b,c,h4,h5,h6,h7⟩:=h
 exact⟨h1.setCell h2 _,h2,λp hp=>⟨(h3 p hp).1,(h3 p hp).2.Jj (h3 p hp).1 _ _⟩,u,b,c,h4.Kb u,hu,h6,h7⟩
theorem bt.Kc (h:bt w r e ps w') {u:Value} (hu:dW u):bt w r e ps (w'.setCell ⟨r,1,none⟩ u):=by
 obtain⟨h1,h2,h3,a,b,c,h4,h5,h6,h7⟩:=h
 exact⟨h1.setCell h2 _,h2,λp hp=>⟨(h3 p hp).1,(h3 p hp).2.Jj (h3 p hp).1 _ _⟩,a,u,c,h4.Kc u,h5,hu,h7⟩
theorem bt.Ke (h:bt w r e ps w') {u:Value} (hu:dW u):bt w r e ps (w'.setCell ⟨r,2,none⟩ u):=by
 obtain⟨h1,h2,h3,a,b,c,h4,h5,h6,h7⟩:=h
 exact⟨h1.setCell h2 _,h2,λp hp=>⟨(h3 p hp).1,(h3 p hp).2.Jj (h3 p hp).1 _ _⟩,a,b,u,h4.Ke u,h5,h6,hu⟩
theorem bt.sets (h:bt w r e ps w'/\p) (b:Bool) (A1 A2:Option Addr) (l1 l2 c1 c2:Nat):
  bt w r e ps (((w'.setCell ⟨r,0,none⟩ (.bool b)).setCell ⟨r,1,none⟩ (.slice A1 l1 c1)).setCell ⟨r,2,none⟩ (.slice A2 l2 c2)):=
 ((h.1.Kb (dQ _)).Kc (bh _ _ _)).Ke (bh _ _ _)
theorem bt.cells (h:bt w r e ps w'):
  w'.cell? ⟨r,0,none⟩=some (cv w' ⟨r,0,none⟩)/\w'.cell? ⟨r,1,none⟩=some (cv w' ⟨r,1,none⟩)/\w'.cell? ⟨r,2,none⟩=some (cv w' ⟨r,2,none⟩)/\w'.frozen? ⟨r,0,none⟩=false/\w'.frozen? ⟨r,1,none⟩=false/\w'.frozen? ⟨r,2,none⟩=false:=by
 obtain⟨_,_,_,a,b,c,h4,_⟩:=h
 exact⟨Cw h4.c0,Cw h4.c1,Cw h4.c2,h4.fz 0,h4.fz 1,h4.fz 2⟩
theorem bt.fin {q:Rat} {neg:Bool} {A1 A2:Option Addr} {l1 l2 c1 c2:Nat} (h:bt w r e ps w') (hn:decide (q.num<0)=neg) (h1:bj .u64 b64 w' (.slice A1 l1 c1) q.num.natAbs) (h2:bj .u64 b64 w' (.slice A2 l2 c2) (az q.den)):
  ∃wf,((w'.setCell ⟨r,0,none⟩ (.bool neg)).setCell ⟨r,1,none⟩ (.slice A1 l1 c1)).setCell ⟨r,2,none⟩ (.slice A2 l2 c2)=wf/\wf.cell? ⟨r,0,none⟩=some (.bool neg)/\wf.cell? ⟨r,1,none⟩=some (.slice A1 l1 c1)/\wf.cell? ⟨r,2,none⟩=some (.slice A2 l2 c2) /\
   lH w q (.returned (.agg #[.bool neg,.slice A1 l1 c1,.slice A2 l2 c2])) wf:=by
 obtain⟨g1,g2,_,a,b,c,h4,h5,h6,h7⟩:=h
 exact pc g2 g1 h4 h5 h6 h7 hn h1 h2
end Wx

namespace Wx
open Go Go.RowKit
variable {M:Nat->Nat->Prop} {w:World} {k:IntKind}
theorem Ns {A:Option Addr} {c:Nat} {l:List Nat} (hM:dN M w) (hk:k=.u64\/k=.u32) (h:Rd w k A c l):aS M (λw=>Rd w k A c l) w:=by
 intro w' he
 obtain⟨h1,h2,h3⟩:=h
 refine⟨h1,h2,λhne=>?_⟩
 obtain⟨b,o,e,hc⟩:=h3 hne
 refine⟨b,o,e,λi hi=>he.cell b (o+i) _ (λhm=>?_) (hc i hi)⟩
 have:=(hM b (o+i) hm).2 _ (hc i hi)
 rcases hk with rfl|rfl
 ·exact(this _).1 rfl
 ·exact(this _).2 rfl
variable {v:Value}
theorem mS {b n:Nat} (hM:dN M w) (hk:k=.u64\/k=.u32) (h:bj k b w v n):aS M (λw=>bj k b w v n) w:=by
 obtain⟨A,c,rfl,hr⟩:=h
 exactλw' he=>⟨A,c,rfl,Ns hM hk hr w' he⟩
def bG (q:Rat):Pred:=λw v=>cB w v q
theorem dS (q:Rat):aC (bG q):=by
 rintro M w v hM ⟨vn,vd,rfl,h1,h2⟩ w' he
 exact⟨vn,vd,rfl,mS hM (.inl rfl) h1 w' he,mS hM (.inl rfl) h2 w' he⟩
theorem sZ (b:Bool):iH (.bool b):=λ_=>⟨(by simp),by simp⟩
theorem fD (A:Option Addr) (l c:Nat):iH (.slice A l c):=λ_=>⟨(by simp),by simp⟩
theorem oU (n:Int):iH (.int .i64 n):=λ_=>⟨(by simp),by simp⟩
theorem By (s:ByteArray):iH (.string s):=λ_=>⟨(by simp),by simp⟩
theorem lW (q:Rat):Fits 3 true (bG q):=by
 rintro w v ⟨vn,vd,rfl,h1,h2⟩
 obtain⟨A,c,rfl,_⟩:=h1
 obtain⟨B,d,rfl,_⟩:=h2
 refine⟨[_,_,_],rfl,rfl,rfl,?_⟩
 intro u hu
 simp at hu
 rcases hu with rfl|rfl|rfl
 ·exact⟨sZ _,rfl⟩
 ·exact⟨fD _ _ _,rfl⟩
 ·exact⟨fD _ _ _,rfl⟩
theorem ow (hn:iH v) (h1:v.oneCell'=true) (hc:v.cells=#[v]):Fits 1 false (bW v):=by
 intro w u hu
 have hu:u=v:=hu
 subst hu
 refine⟨[u],rfl,rfl,hc,?_⟩
 intro x hx
 simp at hx
 subst hx
 exact⟨hn,h1⟩
theorem fits_int (n:Int):Fits 1 false (pI n):=ow (oU n) rfl rfl
theorem fits_bool (b:Bool):Fits 1 false (pB b):=ow (sZ b) rfl rfl
theorem yN (s:ByteArray):Fits 1 false (bW (.string s)):=ow (By s) rfl rfl
structure Fd where
 agg:Bool
 n:Nat
 p:Pred
def aL:List Fd->World->List Value->Prop
 |[],_,cs=>cs=[]
 |f::fs,w,cs=>f.n<=cs.length/\f.p w (av f.agg (cs.take f.n))/\aL fs w (cs.drop f.n)
def pS (fs:List Fd):Pred:=λw v=>∃cs:List Value,v=.agg cs.toArray/\aL fs w cs
def bz:List Fd->Nat->Nat
 |[],_=>0
 |_::_,0=>0
 |f::fs,k+1=>f.n+bz fs k
def lz:List Fd->Nat
 |[]=>0
 |f::fs=>f.n+lz fs
theorem iV:∀{fs:List Fd} {w:World} {cs:List Value},aL fs w cs->cs.length=lz fs:=by
 intro fs
 induction fs with
 |nil=>intro w cs h; rw[show cs=[]from h]; rfl
 |cons f fs ih=>
  intro w cs h
  obtain⟨h1,_,h3⟩:=h
  have:=ih h3
  rw[List.length_drop]at this
  simp only[lz]
  omega
theorem tA:∀{fs:List Fd} {w:World} {cs:List Value} {k:Nat} {f:Fd},aL fs w cs->fs[k]?=some f->f.p w (av f.agg ((cs.drop (bz fs k)).take f.n)):=by
 intro fs
 induction fs with
 |nil=>intro w cs k f _ hk; simp at hk
 |cons g fs ih=>
  intro w cs k f h hk
  obtain⟨h1,h2,h3⟩:=h
  cases k with
  |zero=>simp at hk; subst hk; exact h2
  |succ k=>
   have:=ih h3 (by simpa using hk)
   rw[List.drop_drop]at this
   exact this
variable {cs:List Value}
theorem cD {ds:List Value} (h:av true cs=av true ds):cs=ds:=by
 simp only[av,if_true]at h
 injection h with h
 have:=congrArg Array.toList h
 simpa using this
variable {fs:List Fd}
theorem eW {N:Nat} (k:Nat) {f:Fd} (hk:fs[k]?=some f) {off:Nat} (ho:bz fs k=off):∀w cs,cs.length=N->pS fs w (av true cs)->f.p w (av f.agg ((cs.drop off).take f.n)):=by
 rintro w cs _ ⟨ds,e,h⟩
 have:=cD (show av true cs=av true ds from e)
 subst this
 rw[<-ho]
 exact tA h hk
theorem BI:∀{fs:List Fd} {w:World} {cs ds:List Value} {k:Nat} {f:Fd} {q:Pred},aL fs w cs->fs[k]?=some f->ds.length=f.n->q w (av f.agg ds)->aL (fs.set k ⟨f.agg,f.n,q⟩) w (cs.take (bz fs k)++ds++cs.drop (bz fs k+f.n)):=by
 intro fs
 induction fs with
 |nil=>intro w cs ds k f q _ hk; simp at hk
 |cons g fs ih=>
  intro w cs ds k f q h hk hl hq
  obtain⟨h1,h2,h3⟩:=h
  cases k with
  |zero=>
   simp at hk
   subst hk
   refine⟨by simp[bz,hl],?_,?_⟩
   ·simp[bz,<-hl]; exact hq
   ·simp[bz,<-hl]
    rw[hl]
    exact h3
  |succ k=>
   have:=ih h3 (by simpa using hk) hl hq
   have hlen:=iV h3
   refine⟨?_,?_,?_⟩
   ·show g.n<=(cs.take (g.n+bz fs k)++ds++cs.drop (g.n+bz fs k+f.n)).length
    simp only[List.length_append,List.length_take,List.length_drop]
    omega
   ·have e:((cs.take (g.n+bz fs k)++ds++cs.drop (g.n+bz fs k+f.n)).take g.n)=cs.take g.n:=by
     rw[List.append_assoc,List.take_append_of_le_length (by simp; omega),List.take_take]
     congr 1; omega
    show g.p w (av g.agg ((cs.take (g.n+bz fs k)++ds++cs.drop (g.n+bz fs k+f.n)).take g.n))
    rw[e]; exact h2
   ·show aL _ w ((cs.take (g.n+bz fs k)++ds++cs.drop (g.n+bz fs k+f.n)).drop g.n)
    have e:((cs.take (g.n+bz fs k)++ds++cs.drop (g.n+bz fs k+f.n)).drop g.n)=(cs.drop g.n).take (bz fs k)++ds++(cs.drop g.n).drop (bz fs k+f.n):=by
     have e1:g.n+bz fs k-g.n=bz fs k:=by omega
     have e2:g.n+(bz fs k+f.n)=g.n+bz fs k+f.n:=by omega
     rw[List.append_assoc,List.drop_append_of_le_length (by simp; omega),List.drop_take,e1,List.append_assoc,List.drop_drop,e2]
    rw[e]; exact this
theorem Ex (h:∀f∈fs,aC f.p):aC (pS fs):=by
 rintro M w v hM ⟨cs,rfl,hc⟩
 have key:∀(fs:List Fd),(∀f∈fs,aC f.p)->∀cs,aL fs w cs->aS M (λw=>aL fs w cs) w:=by
  intro fs
  induction fs with
  |nil=>intro _ cs h w' _; exact h
  |cons f fs ih=>
   rintro hf cs ⟨h1,h2,h3⟩ w' he
   exact⟨h1,hf f (by simp) M w _ hM h2 w' he,ih (λg hg=>hf g (List.mem_cons_of_mem _ hg)) _ h3 w' he⟩
 exactλw' he=>⟨cs,rfl,key fs h cs hc w' he⟩
def kC:List Fd->Prop
 |[]=>True
 |f::fs=>aC f.p/\kC fs
theorem kC.get:∀{fs:List Fd},kC fs->∀f∈fs,aC f.p:=by
 intro fs
 induction fs with
 |nil=>intro _ f hf; cases hf
 |cons g fs ih=>
  intro h f hf
  rcases List.mem_cons.1 hf with rfl|hf
  ·exact h.1
  ·exact ih h.2 f hf
theorem Ey (h:kC fs):aC (pS fs):=Ex h.get
def qU:List Fd->Prop
 |[]=>True
 |f::fs=>Fits f.n f.agg f.p/\qU fs
theorem pZ (h:qU fs) {n:Nat} (hn:lz fs=n):Fits n true (pS fs):=by
 rintro w v ⟨cs,rfl,hc⟩
 refine⟨cs,rfl,by rw[<-hn]; exact iV hc,rfl,?_⟩
 have key:∀(fs:List Fd),qU fs->∀cs,aL fs w cs->∀u∈cs,iH u/\u.oneCell'=true:=by
  intro fs
  induction fs with
  |nil=>intro _ cs h u hu; rw[show cs=[]from h]at hu; cases hu
  |cons f fs ih=>
   rintro⟨h0,T6⟩ cs ⟨h1,h2,h3⟩ u hu
   rw[<-List.take_append_drop f.n cs,List.mem_append]at hu
   rcases hu with hu|hu
   ·obtain⟨ds,e,hl,hcells,h4⟩:=h0 w _ h2
    have:cs.take f.n=ds:=by
     cases hagg:f.agg with
     |true=>rw[hagg]at e; exact cD e
     |false=>
      rw[hagg]at e hcells
      have qO:=hcells
      rw[e]at qO
      match ds,hl,h4 with
      |[x],hl,h4=>
       have hl':(cs.take f.n).length=1:=by rw[List.length_take]; simp at hl; omega
       match hct:cs.take f.n,hl' with
       |[y],_=>
        rw[hct]at e
        simp only[av,Bool.false_eq_true,if_false,List.headD_cons]at e
        rw[e]
      |[],hl,_=>
       exfalso
       simp only[av,Bool.false_eq_true,if_false,List.headD_nil,undef,Value.cells]at qO
       exact absurd (congrArg Array.size qO) (by simp)
      |x::y::ds,hl,h4=>
       exfalso
       have:=h4 x (by simp)
       simp only[av,Bool.false_eq_true,if_false,List.headD_cons]at qO
       cases x<;>simp[Value.oneCell',Value.cells]at this qO
    rw[this]at hu
    exact h4 u hu
   ·exact ih T6 _ h3 u hu
 exact key fs h cs hc
theorem Hs (h:aL fs w cs):pS fs w (.agg cs.toArray):=⟨cs,rfl,h⟩
theorem Qe (h:aL fs w cs):pS fs w (.agg cs.toArray):=⟨cs,rfl,h⟩
end Wx

namespace Wx
open Go Go.RowKit
theorem DU (ds:List Value):∀(k:Nat) (cs:List Value) (off:Nat),off+k+ds.length<=cs.length ->
  ((ds.zipIdx k).foldl (λ(cs:Array Value) (q:Value×Nat)=>cs.setIfInBounds (off+q.2) q.1) cs.toArray)=(cs.take (off+k)++ds++cs.drop (off+k+ds.length)).toArray:=by
 induction ds with
 |nil=>intro k cs off _; simp
 |cons d ds ih=>
  intro k cs off h
  simp only[List.zipIdx_cons,List.foldl_cons]
  have e:cs.toArray.setIfInBounds (off+k) d=(cs.set (off+k) d).toArray:=by simp
  rw[e,ih (k+1) (cs.set (off+k) d) off (by simp at h ⊢; omega)]
  congr 1
  have:=list_seg_step cs (off+k) d ds (by simp at h; omega)
  simpa [Nat.add_assoc,Nat.add_comm 1,Nat.add_left_comm 1] using this
def Fd.form (g:Fd):Bool×Nat:=(g.agg,g.n)
def tS (fs:List Fd) (k:Nat) (p:Pred):List Fd:=match fs[k]? with
 |some f=>fs.set k ⟨f.agg,f.n,p⟩
 |none=>fs
def nu:List Fd->List (Nat×Pred)->List Fd
 |fs,[]=>fs
 |fs,(k,p)::r=>nu (tS fs k p) r
def qu (fs:List Fd) (w:World):List (Nat×Value)->List (Nat×Pred)->Prop
 |[],[]=>True
 |(i,v)::vs,(k,p)::ps=>(i=k/\p w v/\∃f,fs[k]?=some f/\Fits f.n f.agg p)/\qu fs w vs ps
 |_,_=>False
variable {fs:List Fd} {k:Nat} {f:Fd} {p:Pred}
theorem EU (hk:fs[k]?=some f):∀j:Nat,((fs.set k ⟨f.agg,f.n,p⟩)[j]?).map Fd.form=(fs[j]?).map Fd.form:=by
 intro j
 rw[List.getElem?_set]
 by_cases h:k=j
 ·subst h
  simp only[if_true]
  split
  ·rw[hk]; rfl
  ·rename_i hlt
   rw[hk]
   rw[List.getElem?_eq_none (by omega)]at hk
   cases hk
 ·rw[if_neg h]
theorem J1 (hk:fs[k]?=some f):∀j,bz (fs.set k ⟨f.agg,f.n,p⟩) j=bz fs j:=by
 induction fs generalizing k with
 |nil=>simp at hk
 |cons g fs ih=>
  intro j
  cases k with
  |zero=>
   simp at hk
   subst hk
   cases j<;>rfl
  |succ k=>
   cases j with
   |zero=>rfl
   |succ j=>simp only[List.set_cons_succ,bz]; rw[ih (by simpa using hk)]
variable {w:World}
theorem qu.shape:∀{vs:List (Nat×Value)} {ps:List (Nat×Pred)} {fs gs:List Fd},(∀j:Nat,(gs[j]?).map Fd.form=(fs[j]?).map Fd.form)->qu fs w vs ps->qu gs w vs ps:=by
 intro vs
 induction vs with
 |nil=>intro ps fs gs h hp; cases ps<;>exact hp
 |cons v vs ih=>
  intro ps fs gs h hp
  cases ps with
  |nil=>exact hp
  |cons q ps=>
   obtain⟨i,v⟩:=v
   obtain⟨k,p⟩:=q
   obtain⟨⟨e,hv,f,hf,hfit⟩,hr⟩:=hp
   refine⟨⟨e,hv,?_⟩,ih h hr⟩
   have:=h k
   rw[hf]at this
   cases hg:gs[k]? with
   |none=>rw[hg]at this; cases this
   |some g=>
    rw[hg]at this
    simp only[Option.map_some,Option.some.injEq,Fd.form,Prod.mk.injEq]at this
    exact⟨g,rfl,by rw[this.1,this.2]; exact hfit⟩
theorem AX {n:Nat} {agg:Bool} (hf:Fits n agg p) {w:World} {v:Value} (h:p w v):∃cs:List Value,v=av agg cs/\cs.length=n/\v.cells=cs.toArray:=by
 obtain⟨cs,h1,h2,h3,_⟩:=hf w v h
 exact⟨cs,h1,h2,h3⟩
theorem CC {pl:Nat->Option (Nat×Nat)}:∀(vs:List (Nat×Value)) (ps:List (Nat×Pred)) (fs:List Fd) (cs:List Value),(∀(k:Nat) (f:Fd),fs[k]?=some f->pl k=some (bz fs k,f.n))->aL fs w cs->qu fs w vs ps ->
  ∃cs':List Value,Instr.fill pl cs.toArray vs=some cs'.toArray/\aL (nu fs ps) w cs'/\∀w',aL fs w' cs->qu fs w' vs ps->aL (nu fs ps) w' cs':=by
 intro vs
 induction vs with
 |nil=>
  intro ps fs cs K5 hc hp
  cases ps with
  |nil=>exact⟨cs,rfl,hc,λ_ h _=>h⟩
  |cons q ps=>exact hp.elim
 |cons v vs ih=>
  intro ps fs cs K5 hc hp
  cases ps with
  |nil=>exact hp.elim
  |cons q ps=>
   obtain⟨i,v⟩:=v
   obtain⟨k,p⟩:=q
   obtain⟨⟨rfl,hv,f,hf,hfit⟩,hr⟩:=hp
   obtain⟨ds,e,hl,hcells⟩:=AX hfit hv
   have D4:∀w',aL fs w' cs->p w' v->aL (tS fs i p) w' (cs.take (bz fs i)++ds++cs.drop (bz fs i+f.n)):=λw' h1 h2=>by
    unfold tS
    rw[hf]
    exact BI h1 hf hl (by rw[<-e]; exact h2)
   have hlen:=iV hc
   have hoff:bz fs i+f.n<=lz fs:=by
    clear K5 hr D4 hlen ih hc
    induction fs generalizing i with
    |nil=>simp at hf
    |cons g fs WW=>
     cases i with
     |zero=>simp at hf; subst hf; simp[bz,lz]
     |succ i=>have:=WW i (by simpa using hf); simp only[bz,lz]; omega
   have hsh:∀j:Nat,((tS fs i p)[j]?).map Fd.form=(fs[j]?).map Fd.form:=by
    unfold tS; rw[hf]; exact EU hf
   obtain⟨cs',h1,h2,h3⟩:=ih ps (tS fs i p) (cs.take (bz fs i)++ds++cs.drop (bz fs i+f.n)) (λk g hg=>by
     have h4:=hsh k
     rw[hg]at h4
     cases hk:fs[k]? with
     |none=>rw[hk]at h4; cases h4
     |some g'=>
      rw[hk]at h4
      simp only[Option.map_some,Option.some.injEq,Fd.form,Prod.mk.injEq]at h4
      rw[K5 k g' hk,h4.2]
      have:bz (tS fs i p) k=bz fs k:=by unfold tS; rw[hf]; exact J1 hf k
      rw[this]) (D4 w hc hv) (hr.shape hsh)
   refine⟨cs',?_,h2,λw' k1 k2=>h3 w' (D4 w' k1 k2.1.2.1) (k2.2.shape hsh)⟩
   have hsz:v.cells.size=f.n:=by rw[hcells]; simpa using hl
   have:=DU ds 0 cs (bz fs i) (by omega)
   simp only[Nat.add_zero,hl]at this
   unfold Instr.fill
   simp only[K5 i f hf,hsz,ne_eq,not_true_eq_false,decide_false,Bool.false_or]
   rw[if_neg (by simp; omega),hcells,show ds.toArray.zipIdx=(ds.zipIdx 0).toArray by simp]
   rw[<-h1,<-this]
   congr 1
   simp
section
variable {P:Program} {ops:Array Oper} {ms:List Nat} {c:dM} {V:List Vr} {A:List Al} {G:List bg} {i:Nat}{d:Nat} {x y:Operand} {ty:TypeId} {pos:String} {aR:Array Edge}
def eJ (ms:List Nat) (G:List bg) (i:Nat) (fs:List Fd):List (Nat×Operand)->List (Nat×Pred)->Prop
 |[],[]=>True
 |(j,x)::xs,(k,p)::ps=>(j=k/\Has ms G i x p/\∃f,fs[k]?=some f/\Fits f.n f.agg p)/\eJ ms G i fs xs ps
 |_,_=>False
end
end Wx

namespace Wx
open Go Go.RowKit
def eH (sz:Nat) (agg:Bool) (p:Pred):Pred:=λw v=>∃(b o:Nat) (cs:List Value),v=.pointer (some ⟨b,o,none⟩)/\cs.length=sz/\(∀j u,cs[j]?=some u->w.cell? ⟨b,o+j,none⟩=some u)/\p w (av agg cs)
def cK (sz:Nat) (agg:Bool) (n:Nat) (f:Nat->Pred):Pred:=λw v=>∃(A:Option Addr) (cap:Nat),v=.slice A n cap/\n<=cap/\cap<=maxLen /\
 (0<n->∃b o:Nat,A=some ⟨b,o,none⟩/\∀i,i<n->∃cs:List Value,cs.length=sz/\(∀j u,cs[j]?=some u->w.cell? ⟨b,o+i*sz+j,none⟩=some u)/\f i w (av agg cs))
variable {M:Nat->Nat->Prop} {w:World} {b o:Nat}
theorem yl {F:World->Prop} {u:Value} (h:aS M F w) (hc:w.cell? ⟨b,o,none⟩=some u) (hno:∀w':World,w'.cell? ⟨b,o,none⟩=some (.int .u64 0)->¬F w'):¬M b o:=by
 intro hm
 have hb:=World.block_lt_of_cell? w _ hc
 simp only[World.cell?]at hc
 cases hbl:w.heap[b]? with
 |none=>rw[hbl]at hc; simp at hc
 |some bl=>
  rw[hbl]at hc
  cases bl with
  |cells cs t fz=>
   simp only at hc
   have ho:o<cs.size:=by
    rcases Nat.lt_or_ge o cs.size with h'|h'
    ·exact h'
    ·rw[Array.getElem?_eq_none h']at hc; simp at hc
   have e:w.heap.setIfInBounds b (.cells (cs.setIfInBounds o (.int .u64 0)) t fz)=w.heap.setIfInBounds b (.cells (cs.setIfInBounds o (.int .u64 0)) t fz):=rfl
   refine hno { w with heap:=w.heap.setIfInBounds b (.cells (cs.setIfInBounds o (.int .u64 0)) t fz) } ?_ (h _ ⟨?_,?_,?_⟩)
   ·simp[World.cell?,hb,ho]
   ·simp
   ·intro k hk hnm
    have hne:b≠k:=λe=>hnm o (e▸hm)
    simp[Array.getElem?_setIfInBounds_ne hne]
   ·intro k j v hnm hv
    by_cases hk:k=b
    ·subst hk
     have hne:o≠j:=λe=>hnm (e▸hm)
     simp only[World.cell?,hbl]at hv
     simp only[World.cell?,Array.getElem?_setIfInBounds_self_of_lt hb]
     simpa [Array.getElem?_setIfInBounds_ne hne] using hv
    ·rw[World.cell?_of_block (w:=w) (by simp[Array.getElem?_setIfInBounds_ne (λe=>hk e.symm)])]
     exact hv
  |_=>simp at hc
theorem FP {w':World} (he:Ext M w w') {b o:Nat} {u:Value} (h:w.cell? ⟨b,o,none⟩=some u) (hm:¬M b o):w'.cell? ⟨b,o,none⟩=some u:=he.cell b o u hm h
theorem om {cs ds:List Value} (hl:cs.length=ds.length) (h1:∀j u,cs[j]?=some u->w.cell? ⟨b,o+j,none⟩=some u) (h2:∀j u,ds[j]?=some u->w.cell? ⟨b,o+j,none⟩=some u):cs=ds:=by
 apply List.ext_getElem hl
 intro i hi hi'
 have e1:=h1 i _ (List.getElem?_eq_getElem hi)
 have e2:=h2 i _ (List.getElem?_eq_getElem hi')
 rw[e1]at e2
 injection e2
theorem zQ {sz:Nat} {agg:Bool} {p:Pred} {v:Value} (h1:agg=false->sz=1) (hf:Fits sz agg p) (h:aS M (λw=>eH sz agg p w v) w):
  ∃(b o:Nat) (cs:List Value),v=.pointer (some ⟨b,o,none⟩)/\cs.length=sz/\(∀j u,cs[j]?=some u->w.cell? ⟨b,o+j,none⟩=some u)/\aS M (λw=>p w (av agg cs)) w:=by
 obtain⟨b,o,cs,rfl,hl,hc,hp⟩:=h.out
 have Dz:∀{cs ds:List Value},cs.length=sz->ds.length=sz->av agg cs=av agg ds->cs=ds:=by
  intro cs ds e1 e2 e
  cases agg with
  |true=>exact cD e
  |false=>
   have:=h1 rfl
   match cs,ds,e1,e2 with
   |[x],[y],_,_=>simp only[av,Bool.false_eq_true,if_false,List.headD_cons]at e; rw[e]
   |[],_,e1,_=>simp at e1; omega
   |_::_::_,_,e1,_=>simp at e1; omega
   |[_],[],_,e2=>simp at e2; omega
   |[_],_::_::_,_,e2=>simp at e2; omega
 have hm:∀j u,cs[j]?=some u->¬M b (o+j):=λj u hj=>yl h (hc j u hj) (by
  rintro w' hw' ⟨b',o',cs',e,hl',hc',hp'⟩
  injection e with e
  injection e with e
  injection e with e2 e3
  subst e2 e3
  obtain⟨ds,e4,hl4,_,h4⟩:=hf w' _ hp'
  have e5:=Dz hl' hl4 e4
  subst e5
  have hj':j<cs'.length:=by
   rcases Nat.lt_or_ge j cs.length with h'|h'
   ·omega
   ·rw[List.getElem?_eq_none h']at hj; cases hj
  have h6:=hc' j _ (List.getElem?_eq_getElem hj')
  rw[hw']at h6
  injection h6 with h6
  exact((h4 _ (List.getElem_mem hj')).1 0).1 h6.symm)
 refine⟨b,o,cs,rfl,hl,hc,λw' he=>?_⟩
 obtain⟨b',o',cs',e,hl',hc',hp'⟩:=h w' he
 injection e with e
 injection e with e
 injection e with e1 e2
 subst e1 e2
 have:cs=cs':=om (by omega) (λj u hj=>FP he (hc j u hj) (hm j u hj)) hc'
 rw[this]; exact hp'
structure pP (P:Program) (T:TypeId) (E:TypeId) (sz:Nat):Prop where
 under:P.underlying T=some (.slice E)
 size:∀w,(Go.sizeOf E).run P w=.ok sz w
section
variable {P:Program} {ops:Array Oper} {ms:List Nat} {c:dM} {V:List Vr} {A:List Al} {G:List bg} {i:Nat} {L:Nat->Bool} {β:Nat->Nat->Prop} {a:Act} {w:World} {o:Oper}{d:Nat} {x y z:Operand} {ty:TypeId} {pos:String} {aR:Array Edge}{T:TypeId} {sz:Nat} {agg:Bool} {p:Pred}
theorem Hf (h:Has ms G i x (eH sz agg p)) (ht:Ty P T agg sz) (hfit:Fits sz agg p) (hp:Post G i p):OpOk P ops ms c V A G i ⟨some d,.load T x,ty,pos,aR,none⟩:=
 dA rfl rfl rfl (.inl rfl) hp λL β a w hI hd=>by
  obtain⟨b,o,cs,e,hl,hc,hb⟩:=zQ ht.one hfit (h.spec hI hd)
  refine⟨_,w,?_,Below.refl _ _,hb⟩
  show(do pure (Next.value (<-Instr.loadAt T (a.eval x)))).run P w=_
  rw[e,Sem.run_bind,fI ht hc hl]
  rfl
variable {E:TypeId} {n:Nat} {m:Int}
theorem mD {b off cap:Nat} (ht:pP P T E sz) (h0:0<=m) (h1:m<n):(Instr.indexAt T (.slice (some ⟨b,off,none⟩) n cap) (.int .i64 m)).run P w=.ok (.pointer (some ⟨b,off+m.toNat*sz,none⟩)) w:=by
 have hu:(underlying T).run P w=.ok (.slice E) w:=run_underlying ht.under w
 simp only[Instr.indexAt,asIntOf,pure_bind,Sem.run_bind,hu,Result.andThen_ok]
 rw[if_pos ⟨h0,h1⟩]
 simp only[Sem.run_bind,ht.size,Result.andThen_ok,Sem.run_pure,Addr.add_mid]
variable {f:Nat->Pred}
theorem zK (h:Has ms G i x (cK sz agg n f)) (hy:Has ms G i y (pI m)) (ht:pP P T E sz) (h0:0<=m) (h1:m<n) (hA:(A.all λq=>q.tag != some i)=true) (hp:Post G i (eH sz agg (f m.toNat))):
  OpOk P ops ms c V A G i ⟨some d,.indexAddr T x y,ty,pos,aR,none⟩:=
 dA rfl rfl rfl (.inr hA) hp λL β a w hI hd=>by
  have hr:=h.spec hI hd
  have hi:a.eval y=.int .i64 m:=(hy.spec hI hd).out
  obtain⟨A',cap,e,hn,hcap,hel⟩:=hr.out
  obtain⟨b,off,rfl,_⟩:=hel (by omega)
  refine⟨.pointer (some ⟨b,off+m.toNat*sz,none⟩),w,?_,Below.refl _ _,λw' he=>?_⟩
  ·show(do pure (Next.value (<-Instr.indexAt T (a.eval x) (a.eval y)))).run P w=_
   rw[e,hi,Sem.run_bind,mD ht h0 h1]
   rfl
  ·obtain⟨A2,eX,e2,_,_,Sm⟩:=hr w' he
   rw[e]at e2
   injection e2 with e2
   obtain⟨b2,W7,e3,Sn⟩:=Sm (by omega)
   rw[<-e2]at e3
   injection e3 with e3
   injection e3 with e4 e5
   subst e4 e5
   obtain⟨cs,h2,h3,h4⟩:=Sn m.toNat (by omega)
   exact⟨_,_,cs,rfl,h2,h3,h4⟩
theorem Nf (h:Has ms G i x (cK sz agg n f)) (ht:P.underlying T=some (.slice E)) (hp:Post G i (pI (n:Int))):
  OpOk P ops ms c V A G i ⟨some d,.call ⟨.builtin .len,#[x],#[T]⟩,ty,pos,aR,none⟩:=
 kQ rfl rfl rfl rfl h hp λρ w h=>⟨.int .i64 n,by
  obtain⟨A',cap,e,_⟩:=h
  have hr:(Builtin.len_ #[T] ty #[ρ x]).run P w=.ok (.int .i64 n) w:=by
   rw[e]
   unfold Builtin.len_
   simp[run_underlying ht,goInt]
  show(do let d <-resolve ρ ⟨.builtin .len,#[x],#[T]⟩ ty; invoke d.target d.args).run P w=_
  simp only[resolve,invoke,pure_bind,builtin]
  rw[show(#[x]:Array Operand).map ρ=#[ρ x] by simp,Sem.run_bind,hr]
  rfl,λ_ _=>rfl⟩
variable {fs:List Fd}
theorem ER {w:World} {g:Nat} {fz:Nat×Nat} {cs:List Value} (hg:w.heap[g]?=some (.cells cs.toArray T fz)) (hc:aL fs w cs) (hf:∀f∈fs,f.agg=agg/\f.n=sz) (hlen:fs.length<=maxLen) (p:Nat->Pred) (hp:∀(k:Nat) (f:Fd),fs[k]?=some f->f.p=p k):
  cK sz agg fs.length p w (.slice (some ⟨g,0,none⟩) fs.length fs.length):=by
 have hoff:∀(fs:List Fd),(∀f∈fs,f.agg=agg/\f.n=sz)->∀k,k<=fs.length->bz fs k=k*sz:=by
  intro fs
  induction fs with
  |nil=>intro _ k hk; simp at hk; subst hk; simp[bz]
  |cons f fs ih=>
   intro h k hk
   cases k with
   |zero=>simp[bz]
   |succ k=>
    have h1:=(h f (by simp)).2
    have h2:=ih (λg hg=>h g (List.mem_cons_of_mem _ hg)) k (by simp at hk; omega)
    simp only[bz,h1,h2]
    rw[Nat.add_mul,Nat.one_mul,Nat.add_comm]
 refine⟨_,_,rfl,Nat.le_refl _,hlen,λ_=>⟨g,0,rfl,λi hi=>?_⟩⟩
 have hk:=List.getElem?_eq_getElem hi
 obtain⟨e1,e2⟩:=hf _ (List.getElem_mem hi)
 have Ph:=tA hc hk
 have htot:=iV hc
 have hsz:∀(fs:List Fd),(∀f∈fs,f.agg=agg/\f.n=sz)->lz fs=fs.length*sz:=by
  intro fs
  induction fs with
  |nil=>intro _; simp[lz]
  |cons f fs ih=>intro h; simp only[lz,(h f (by simp)).2,ih (λg hg=>h g (List.mem_cons_of_mem _ hg)),List.length_cons,Nat.add_mul,Nat.one_mul]; omega
 have hs:=hsz fs hf
 have Gk:=hoff fs hf i (by omega)
 have hle:i*sz+sz<=fs.length*sz:=by
  have:(i+1)*sz<=fs.length*sz:=Nat.mul_le_mul_right _ hi
  rw[Nat.add_mul,Nat.one_mul]at this; exact this
 refine⟨(cs.drop (i*sz)).take sz,by simp; omega,λj u hj=>?_,?_⟩
 ·have:=iK hg (i*sz) sz j u hj
  rwa [Nat.zero_add]
 ·rw[Gk,e1,e2]at Ph
  rw[<-hp i _ hk]
  exact Ph
def Qd (sz:Nat) (agg:Bool) (n:Nat) (f:Nat->Pred):Pred:=λw v=>(∃A:Option Addr,v=.slice A n n)/\cK sz agg n f w v
variable {parts:Array (Nat×Operand)} {zv:Value} {gs:List Fd} {ps:List (Nat×Pred)}
theorem tu {z:List Value} (ht:pP P T E sz) (Eb:∀w,(zeroValue E).run P w=.ok zv w) (wX:zv.cells=z.toArray)
  (IP:fs=List.replicate n ⟨agg,sz,p⟩) (hsz:decide (0<sz/\0<n/\n*sz<=16777216)=true) (hz:∀w,p w (av agg z)) (zf:z.length=sz) (hps:eJ ms G i fs parts.toList ps) (hg:nu fs ps=gs) (q:Nat->Pred) (hq:∀(k:Nat) (f:Fd),gs[k]?=some f->f.p=q k) (hp:Post G i (Qd sz agg n q)):
  OpOk P ops ms c V A G i ⟨some d,.buildSlice T n parts,ty,pos,aR,none⟩:=
 dA rfl rfl rfl (.inl rfl) hp λL β a w hI hd=>by
  obtain⟨hs0,Bc,SH⟩:=of_decide_eq_true hsz
  have key:∀(xs:List (Nat×Operand)) (ps:List (Nat×Pred)),eJ ms G i fs xs ps->aS (own c V L β) (λw=>qu fs w (xs.map λq=>(q.1,a.eval q.2)) ps) w:=by
   intro xs
   induction xs with
   |nil=>intro ps h; cases ps<;>exactλ_ _=>h
   |cons q xs ih=>
    intro ps h
    obtain⟨j,x⟩:=q
    cases ps with
    |nil=>exact h.elim
    |cons r ps=>
     obtain⟨k,p⟩:=r
     obtain⟨⟨e,h1,h2⟩,h3⟩:=h
     exactλw' he=>⟨⟨e,h1.spec hI hd w' he,h2⟩,ih ps h3 w' he⟩
  have hb:=key _ _ hps
  have wN:∀(n:Nat) (w:World),aL (List.replicate n ⟨agg,sz,p⟩) w ((List.replicate n z).flatten):=by
   intro n
   induction n with
   |zero=>intro w; rfl
   |succ n ih=>
    intro w
    rw[List.replicate_succ,List.replicate_succ,List.flatten_cons]
    refine⟨by simp[zf],?_,?_⟩
    ·rw[List.take_append_of_le_length (by rw[zf]; exact Nat.le_refl _),List.take_of_length_le (by rw[zf]; exact Nat.le_refl _)]; exact hz w
    ·have e:List.drop sz (z++(List.replicate n z).flatten)=(List.replicate n z).flatten:=by rw[<-zf]; simp
     show aL _ w (List.drop sz (z++(List.replicate n z).flatten))
     rw[e]; exact ih w
  have hoff:∀k,k<=n->bz fs k=k*sz:=by
   rw[IP]
   clear IP hz hps hg hb key wN SH Bc hsz hp hq
   induction n with
   |zero=>intro k hk; simp at hk; subst hk; simp[bz]
   |succ n ih=>
    intro k hk
    rw[List.replicate_succ]
    cases k with
    |zero=>simp[bz]
    |succ k=>
     simp only[bz,ih k (by omega)]
     rw[Nat.add_mul,Nat.one_mul,Nat.add_comm]
  have Jz:fs.length=n:=by rw[IP]; simp
  have hall:∀f∈fs,f.agg=agg/\f.n=sz:=by
   intro f hf
   rw[IP]at hf
   have:=List.eq_of_mem_replicate hf
   rw[this]; exact⟨rfl,rfl⟩
  obtain⟨cs',h1,h2,h3⟩:=CC (pl:=λi=>some (i*sz,sz)) _ _ fs ((List.replicate n z).flatten) (λk f hk=>by
   have hk':k<n:=by
    rw[<-Jz]
    rcases Nat.lt_or_ge k fs.length with h|h
    ·exact h
    ·rw[List.getElem?_eq_none h]at hk; cases hk
   rw[hoff k (by omega),(hall f (List.mem_of_getElem? hk)).2]) (by rw[IP]; exact wN n w) hb.out
  have KV:∀f∈gs,f.agg=agg/\f.n=sz:=by
   rw[<-hg]
   clear hg h1 h2 h3 hb key hps hq hoff IP Jz
   induction ps generalizing fs with
   |nil=>exact hall
   |cons r ps ih=>
    obtain⟨k,r⟩:=r
    refine ih λf hf=>?_
    unfold tS at hf
    split at hf
    ·rename_i g Wm
     rcases List.mem_or_eq_of_mem_set hf with h|h
     ·exact hall f h
     ·rw[h]; exact hall g (List.mem_of_getElem? Wm)
    ·exact hall f hf
  have Pj:gs.length=n:=by
   rw[<-hg,<-Jz]
   clear hg h1 h2 h3 hb key hps hq hoff IP Jz KV hall
   induction ps generalizing fs with
   |nil=>rfl
   |cons r ps ih=>
    obtain⟨k,r⟩:=r
    show(nu (tS fs k r) ps).length=fs.length
    rw[ih]
    unfold tS
    split<;>simp
  rw[hg]at h2 h3
  refine⟨.slice (some ⟨w.heap.size,0,none⟩) n n,w.alloc (.cells cs'.toArray E),?_,Below.alloc (Below.refl _ _) (Nat.le_refl _) _,λw' he=>?_⟩
  ·show(do pure (Next.value (<-Instr.buildSlice T n (parts.map λ(i,x)=>(i,a.eval x))))).run P w=_
   have hu:(underlying T).run P w=.ok (.slice E) w:=run_underlying ht.under w
   have e:(parts.map λ(i,x)=>(i,a.eval x)).toList=parts.toList.map λq=>(q.1,a.eval q.2):=by simp
   have R1:(Array.range (n*sz)).map (λk=>z.toArray[k%z.toArray.size]!)=((List.replicate n z).flatten).toArray:=by
    apply Array.ext
    ·simp[zf]
    ·intro k lE hk2
     simp only[Array.getElem_map,Array.getElem_range,List.size_toArray,zf]
     simp only[List.getElem_toArray]
     have hlt:k%sz<z.length:=by rw[zf]; exact Nat.mod_lt _ hs0
     rw[getElem!_pos z.toArray (k%sz) (by simpa using hlt)]
     have Tj:∀(n k:Nat) (h:k<((List.replicate n z).flatten).length),((List.replicate n z).flatten)[k]=z[k%sz]'(by rw[zf]; exact Nat.mod_lt _ hs0):=by
      intro n
      induction n with
      |zero=>intro k h; simp at h
      |succ n ih=>
       intro k h
       simp only[List.replicate_succ,List.flatten_cons]
       by_cases hks:k<sz
       ·rw[List.getElem_append_left (by rw[zf]; exact hks)]
        congr 1
        exact(Nat.mod_eq_of_lt hks).symm
       ·rw[List.getElem_append_right (by rw[zf]; omega)]
        have hk3:k-z.length<((List.replicate n z).flatten).length:=by
         simp only[List.replicate_succ,List.flatten_cons,List.length_append]at h
         omega
        rw[ih (k-z.length) hk3]
        congr 1
        rw[zf]
        exact(Nat.mod_eq_sub_mod (by omega)).symm
     rw[Tj n k (by simpa using hk2)]
     simp
   rw[Sem.run_bind]
   have hrun:(Instr.buildSlice T n (parts.map λ(i,x)=>(i,a.eval x))).run P w=.ok (.slice (some ⟨w.heap.size,0,none⟩) n n) (w.alloc (.cells cs'.toArray E)):=by
    simp only[Instr.buildSlice,Sem.run_bind,hu,Result.andThen_ok,ht.size]
    rw[if_neg (by omega),if_neg (by have:=Nat.mul_pos Bc hs0; omega)]
    simp only[Sem.run_bind,Eb,Result.andThen_ok,Sem.run_pure,wX]
    rw[R1,e,h1]
    simp only[Sem.run_bind,newRow,Sem.run_pure]
    rfl
   rw[hrun]
   rfl
  ·have hgt:w'.heap[w.heap.size]?=some (.cells cs'.toArray E (0,0)):=by
    rw[he.block w.heap.size (by simp) (λo h=>by have:=xn hI h; omega)]
    exact heap_alloc_new _ _
   have he':Ext (own c V L β) w w':=(Ext.cA (Below.alloc (Below.refl _ _) (Nat.le_refl _) _)).trans he
   have hc':=h3 w' (by rw[IP]; exact wN n w') (hb w' he')
   have:=ER hgt hc' KV (by rw[Pj]; unfold maxLen; have:n<=n*sz:=Nat.le_mul_of_pos_right n hs0; omega) q hq
   rw[Pj]at this
   exact⟨⟨_,rfl⟩,this⟩
theorem jE {z:List Value} (ht:pP P T E sz) (Eb:∀w,(zeroValue E).run P w=.ok zv w) (wX:zv.cells=z.toArray)
  (IP:fs=List.replicate n ⟨agg,sz,p⟩) (hsz:decide (0<sz/\0<n/\n*sz<=16777216)=true) (hz:∀w,p w (av agg z)) (zf:z.length=sz) (hps:eJ ms G i fs parts.toList ps) (hg:nu fs ps=gs) (q:Nat->Pred) (hq:∀(k:Nat) (f:Fd),gs[k]?=some f->f.p=q k) (hp:Post G i (cK sz agg n q)):
  OpOk P ops ms c V A G i ⟨some d,.buildSlice T n parts,ty,pos,aR,none⟩:=tu ht Eb wX IP hsz hz zf hps hg q hq (by
 cases hp with
 |at_ k s r h hr=>exact .at_ k s r h λw v hp=>hr w v hp.2
 |none h=>exact .none h)
theorem zI {f:FuncId} {fx:Operand} {args:Array Operand} {ts:Array TypeId} (hf:aP P f) (hx:Has ms G i fx (bW (.func (.func f) #[] #[]))) (hp:Post G i p)
  (hc:∀L β a w,aW c V A G L β a w->ni ms i L->Calls P f (args.map a.eval) w (bT (own c V L β) p w)):
  OpOk P ops ms c V A G i ⟨some d,.call ⟨.value fx,args,ts⟩,ty,pos,aR,none⟩:=by
 refine lq (λL β a w hI hd hwf=>?_) rfl
 have KU:a.eval fx=.func (.func f) #[] #[]:=(hx.spec hI hd).out
 have hr:(execOp a.eval ⟨some d,.call ⟨.value fx,args,ts⟩,ty,pos,aR,none⟩).run P w=.ok (.enter f (args.map a.eval)) w:=by
  have:=hf (args.map a.eval++#[]) w
  simp only[execOp,resolve,KU,Deferred.ofValue,pure_bind,invoke]
  rw[Array.append_empty]at this
  first|exact this|simpa using this
 unfold Does
 rw[hr]
 refine(hc L β a w hI hd).mono ?_
 rintro e w' ⟨v,rfl,hv,hb⟩
 exact⟨v,rfl,β,hI.value hwf (sW hwf rfl) rfl hb (λd q _ hq Fu _=>by have:=hwf.aa q hq Fu; cases this) λe he ht=>hv.imp λw=>hp.spec hwf he ht w v⟩
end
def xW (G:List bg):List bg->Prop
 |[]=>True
 |e::es=>(e.tag=none/\e.till=none/\∃(k:Nat) (p:Pred),G[k]?=some ⟨none,none,e.slot,p⟩/\∀w v,p w v->e.p w v)/\xW G es
def ya (V:List Vr):List Vr->Prop
 |[]=>True
 |x::xs=>(∃(k:Nat) (kd:Kd) (p:Rel),V[k]?=some ⟨x.id,x.slot,none,none,kd,x.T,x.n,x.agg,p,[]⟩/\(x.born=none/\x.dead=none/\x.st=[])/\kd=x.kd/\∀F w v,p F w v->x.c0 F w v)/\ya V xs
variable {G:List bg}
theorem xW.get:∀{G':List bg},xW G G'->∀e,e∈G'->e.tag=none/\e.till=none/\∃(k:Nat) (p:Pred),G[k]?=some ⟨none,none,e.slot,p⟩/\∀w v,p w v->e.p w v:=by
 intro G'
 induction G' with
 |nil=>intro _ e he; cases he
 |cons f G' ih=>
  intro h e he
  rcases List.mem_cons.1 he with rfl|he
  ·exact h.1
  ·exact ih h.2 e he
variable {V:List Vr}
theorem ya.get:∀{V':List Vr},ya V V'->∀x,x∈V'->∃(k:Nat) (kd:Kd) (p:Rel),V[k]?=some ⟨x.id,x.slot,none,none,kd,x.T,x.n,x.agg,p,[]⟩/\(x.born=none/\x.dead=none/\x.st=[])/\kd=x.kd/\∀F w v,p F w v->x.c0 F w v:=by
 intro V'
 induction V' with
 |nil=>intro _ x hx; cases hx
 |cons f V' ih=>
  intro h x hx
  rcases List.mem_cons.1 hx with rfl|hx
  ·exact h.1
  ·exact ih h.2 x hx
theorem Inv.conv {c:dM} {V':List Vr} {A:List Al} {G':List bg} {a:Act} {w:World} (h:Inv c V A G none_ a w) (hV:ya V V') (hG:xW G G'):Inv c V' [] G' none_ a w:=by
 obtain⟨β,h⟩:=h
 have eo:∀k o,own c V' none_ β k o->own c V none_ β k o:=by
  rintro k o (h1|⟨x,hx,_,h2,h3⟩)
  ·exact .inl h1
  ·obtain⟨j,kd,p,hj,_,hk,_⟩:=hV.get x hx
   subst hk
   exact .inr ⟨_,List.mem_of_getElem? hj,rfl,h2,h3⟩
 refine⟨β,h.size,h.defers,h.below,h.old,?_,?_,(λp hp=>by cases hp),?_⟩
 ·intro x hx _
  obtain⟨j,kd,p,hj,⟨hb,hdd,hs⟩,cO,hp⟩:=hV.get x hx
  subst cO
  have hv:=h.var _ (List.mem_of_getElem? hj) rfl
  rcases iP x.kd with hk|⟨m,sz,hk⟩|hk
  ·obtain⟨g,h1,h2,h3⟩:=(bK (x:=⟨x.id,x.slot,none,none,x.kd,x.T,x.n,x.agg,p,[]⟩) hk).1 hv
   obtain⟨cs,h4,h5,h6,h7⟩:=h3.held
   refine(bK hk).2 ⟨g,h1,h2,h3.new,cs,h4,h5,h6,?_⟩
   rw[hs]
   exact(h7.sub λk o _ hk=>eo k o hk).imp λw=>hp _ w _
  ·exact(bN hk).2 ((bN (x:=⟨x.id,x.slot,none,none,x.kd,x.T,x.n,x.agg,p,[]⟩) hk).1 hv)
  ·obtain⟨h1,h2⟩:=(aQ (x:=⟨x.id,x.slot,none,none,x.kd,x.T,x.n,x.agg,p,[]⟩) hk).1 hv
   refine(aQ hk).2 ⟨h1,?_⟩
   rw[hs]
   exact(h2.sub λk o _ h=>⟨eo k o h.1,h.2⟩).imp λw=>hp _ w _
 ·intro x y g hx hy _ _ hne
  obtain⟨j,kd,p,hj,_⟩:=hV.get x hx
  obtain⟨j',kd',p',hj',_⟩:=hV.get y hy
  have:=h.apart _ _ g (List.mem_of_getElem? hj) (List.mem_of_getElem? hj') rfl rfl hne
  exact this
 ·intro e he _ _
  obtain⟨_,_,k,p,hk,hp⟩:=hG.get e he
  exact((h.jb _ (List.mem_of_getElem? hk) rfl rfl).sub λk o _ hk=>eo k o hk).imp λw=>hp w _
end Wx
