import Derived.Deep.RegionHeld3
import Derived.Test.YtikkgpljpglnbaaGreatCRMRat1
import Derived.Laws.Tables
namespace Wx
open Go Go.RowKit Go.Proofs
variable {w w':World} {g:Nat} {x y z:Value} {e:TypeId}
theorem bW.gone (h:bW w g x y z e) (hb:Below w.heap.size w w'):bW w' g x y z e:=by
 refine h.below hb ?_
 unfold bW at h
 rcases Nat.lt_or_ge g w.heap.size with h1|h1
 ·exact h1
 ·rw[Array.getElem?_eq_none h1]at h; cases h
theorem iY (w:World) (x y z:Value) (e:TypeId):∃w',w.alloc (.cells #[x,y,z] e)=w'/\bW w' w.heap.size x y z e/\Below w.heap.size w w'/\w'.heap.size=w.heap.size+1:=
 ⟨_,rfl,bW.new _ _ _ _ _,Below.alloc (Below.refl _ _) (Nat.le_refl _) _,by simp⟩
theorem mC (q:Rat):q.num.natAbs=0↔q=0:=by
 rw[Int.natAbs_eq_zero]
 exact Rat.num_eq_zero
theorem zero_num (w:World) (v:Value) (q:Rat) (h:cM w v q):Calls Tryz.prog 29 #[v] w (fW w (.bool (decide (q=0)))):=by
 obtain⟨vn,vd,rfl,h1,h2⟩:=h
 obtain⟨A1,c1,rfl,_⟩:=id h1
 obtain⟨A2,c2,rfl,_⟩:=id h2
 have hz:(((ak b64 q.num.natAbs).length:Int)==0)=decide (q=0):=by
  by_cases hq:q=0
  ·rw[hq,decide_eq_true rfl]; rfl
  ·rw[decide_eq_false hq,beq_eq_false_iff_ne]
   have:=(aU (n:=q.num.natAbs) ai).2 (by have:=mt (mC q).1 hq; omega)
   omega
 generalize (ak b64 q.num.natAbs).length=L1 at *
 go_enter Tryz.func29,Tryz.ntmps29
 go_wp2
 go_ret
 exact⟨rfl,Below.alloc (Below.refl _ _) (Nat.le_refl _) _⟩
@[irreducible] def cv (w : World) (a : Addr) : Value := (w.cell? a).getD (.bool false)
theorem CQ {a:Addr} {v:Value} (h:w.cell? a=some v):w.cell? a=some (cv w a):=by unfold cv; rw[h]; rfl
def jx (v:Value):Prop:=∀k n,v≠.int k n
theorem dR (b:Bool):jx (.bool b):=by intro k n h; cases h
theorem bt (A:Option Addr) (l c:Nat):jx (.slice A l c):=by intro k n h; cases h
def aV (w:World) (r:Nat) (e:TypeId) (ps:List (Nat×Value×Value×Value)) (w':World):Prop:=
 Below w.heap.size w w'/\w.heap.size<=r/\(∀p∈ps,p.1≠r/\bW w' p.1 p.2.1 p.2.2.1 p.2.2.2 e)/\∃a b c,bW w' r a b c e/\jx a/\jx b/\jx c
variable {r:Nat} {ps:List (Nat×Value×Value×Value)} {p:Prop}
theorem aV.call {w'':World} (h:aV w r e ps w'/\p) (hb:Below w'.heap.size w' w''):aV w r e ps w'':=by
 obtain⟨⟨h1,h2,h3,a,b,c,h4,h5⟩,_⟩:=h
 exact⟨h1.trans (hb.mono h1.size),h2,λp hp=>⟨(h3 p hp).1,(h3 p hp).2.gone hb⟩,a,b,c,h4.gone hb,h5⟩
theorem aV.drew (h:aV w r e ps w'):aV w r e ps w'.drew:=by
 obtain⟨h1,h2,h3,h4⟩:=h
 exact⟨h1.drew,h2,h3,h4⟩
theorem bW.KM (h:bW w g x y z e) (hr:g≠r) (i:Nat) (u:Value):bW (w.setCell ⟨r,i,none⟩ u) g x y z e:=(Below.heap_setCell w ⟨r,i,none⟩ u g hr).trans h
theorem aV.Gy (h:aV w r e ps w') {u:Value} (hu:jx u):aV w r e ps (w'.setCell ⟨r,0,none⟩ u):=by
 obtain⟨h1,h2,h3,a,b,c,h4,h5,h6,h7⟩:=h
 exact⟨h1.setCell h2 _,h2,λp hp=>⟨(h3 p hp).1,(h3 p hp).2.KM (h3 p hp).1 _ _⟩,u,b,c,h4.Gy u,hu,h6,h7⟩
theorem aV.Gz (h:aV w r e ps w') {u:Value} (hu:jx u):aV w r e ps (w'.setCell ⟨r,1,none⟩ u):=by
 obtain⟨h1,h2,h3,a,b,c,h4,h5,h6,h7⟩:=h
 exact⟨h1.setCell h2 _,h2,λp hp=>⟨(h3 p hp).1,(h3 p hp).2.KM (h3 p hp).1 _ _⟩,a,u,c,h4.Gz u,h5,hu,h7⟩
theorem aV.GA (h:aV w r e ps w') {u:Value} (hu:jx u):aV w r e ps (w'.setCell ⟨r,2,none⟩ u):=by
 obtain⟨h1,h2,h3,a,b,c,h4,h5,h6,h7⟩:=h
 exact⟨h1.setCell h2 _,h2,λp hp=>⟨(h3 p hp).1,(h3 p hp).2.KM (h3 p hp).1 _ _⟩,a,b,u,h4.GA u,h5,h6,hu⟩
theorem aV.sets (h:aV w r e ps w'/\p) (b:Bool) (A1 A2:Option Addr) (l1 l2 c1 c2:Nat):
  aV w r e ps (((w'.setCell ⟨r,0,none⟩ (.bool b)).setCell ⟨r,1,none⟩ (.slice A1 l1 c1)).setCell ⟨r,2,none⟩ (.slice A2 l2 c2)):=
 ((h.1.Gy (dR _)).Gz (bt _ _ _)).GA (bt _ _ _)
theorem aV.cells (h:aV w r e ps w'):
  w'.cell? ⟨r,0,none⟩=some (cv w' ⟨r,0,none⟩)/\w'.cell? ⟨r,1,none⟩=some (cv w' ⟨r,1,none⟩)/\w'.cell? ⟨r,2,none⟩=some (cv w' ⟨r,2,none⟩)/\w'.frozen? ⟨r,0,none⟩=false/\w'.frozen? ⟨r,1,none⟩=false/\w'.frozen? ⟨r,2,none⟩=false:=by
 obtain⟨_,_,_,a,b,c,h4,_⟩:=h
 exact⟨CQ h4.c0,CQ h4.c1,CQ h4.c2,h4.fz 0,h4.fz 1,h4.fz 2⟩
theorem aV.fin {q:Rat} {neg:Bool} {A1 A2:Option Addr} {l1 l2 c1 c2:Nat} (h:aV w r e ps w') (hn:decide (q.num<0)=neg) (h1:cz .u64 b64 w' (.slice A1 l1 c1) q.num.natAbs) (h2:cz .u64 b64 w' (.slice A2 l2 c2) (aK q.den)):
  ∃wf,((w'.setCell ⟨r,0,none⟩ (.bool neg)).setCell ⟨r,1,none⟩ (.slice A1 l1 c1)).setCell ⟨r,2,none⟩ (.slice A2 l2 c2)=wf/\wf.cell? ⟨r,0,none⟩=some (.bool neg)/\wf.cell? ⟨r,1,none⟩=some (.slice A1 l1 c1)/\wf.cell? ⟨r,2,none⟩=some (.slice A2 l2 c2) /\
   jy w q (.returned (.agg #[.bool neg,.slice A1 l1 c1,.slice A2 l2 c2])) wf:=by
 obtain⟨g1,g2,_,a,b,c,h4,h5,h6,h7⟩:=h
 exact mM g2 g1 h4 h5 h6 h7 hn h1 h2
end Wx

namespace Wx
open Go Go.RowKit
variable {M:Nat->Nat->Prop} {w:World} {k:IntKind}
theorem Ki {A:Option Addr} {c:Nat} {l:List Nat} (hM:cQ M w) (hk:k=.u64\/k=.u32) (h:Rd w k A c l):aL M (λw=>Rd w k A c l) w:=by
 intro w' he
 obtain⟨h1,h2,h3⟩:=h
 refine⟨h1,h2,λhne=>?_⟩
 obtain⟨b,o,e,hc⟩:=h3 hne
 refine⟨b,o,e,λi hi=>he.cell b (o+i) _ (λhm=>?_) (hc i hi)⟩
 have:=(hM b (o+i) hm).2 _ (hc i hi)
 rcases hk with rfl|rfl
 ·exact(this _).1 rfl
 ·exact(this _).2 rfl
variable {v:Value}
theorem mB {b n:Nat} (hM:cQ M w) (hk:k=.u64\/k=.u32) (h:cz k b w v n):aL M (λw=>cz k b w v n) w:=by
 obtain⟨A,c,rfl,hr⟩:=h
 exactλw' he=>⟨A,c,rfl,Ki hM hk hr w' he⟩
def bq (q:Rat):Pred:=λw v=>cM w v q
theorem cP (q:Rat):av (bq q):=by
 rintro M w v hM ⟨vn,vd,rfl,h1,h2⟩ w' he
 exact⟨vn,vd,rfl,mB hM (.inl rfl) h1 w' he,mB hM (.inl rfl) h2 w' he⟩
theorem qX (b:Bool):fq (.bool b):=λ_=>⟨(by simp),by simp⟩
theorem eP (A:Option Addr) (l c:Nat):fq (.slice A l c):=λ_=>⟨(by simp),by simp⟩
theorem eZ (n:Int):fq (.int .i64 n):=λ_=>⟨(by simp),by simp⟩
theorem yI (s:ByteArray):fq (.string s):=λ_=>⟨(by simp),by simp⟩
theorem jG (q:Rat):Fits 3 true (bq q):=by
 rintro w v ⟨vn,vd,rfl,h1,h2⟩
 obtain⟨A,c,rfl,_⟩:=h1
 obtain⟨B,d,rfl,_⟩:=h2
 refine⟨[_,_,_],rfl,rfl,rfl,?_⟩
 intro u hu
 simp at hu
 rcases hu with rfl|rfl|rfl
 ·exact⟨qX _,rfl⟩
 ·exact⟨eP _ _ _,rfl⟩
 ·exact⟨eP _ _ _,rfl⟩
theorem lZ (hn:fq v) (h1:v.oneCell'=true) (hc:v.cells=#[v]):Fits 1 false (bg v):=by
 intro w u hu
 have hu:u=v:=hu
 subst hu
 refine⟨[u],rfl,rfl,hc,?_⟩
 intro x hx
 simp at hx
 subst hx
 exact⟨hn,h1⟩
theorem fits_int (n:Int):Fits 1 false (pI n):=lZ (eZ n) rfl rfl
theorem fits_bool (b:Bool):Fits 1 false (pB b):=lZ (qX b) rfl rfl
theorem vU (s:ByteArray):Fits 1 false (bg (.string s)):=lZ (yI s) rfl rfl
structure Fd where
 agg:Bool
 n:Nat
 p:Pred
def aD:List Fd->World->List Value->Prop
 |[],_,cs=>cs=[]
 |f::fs,w,cs=>f.n<=cs.length/\f.p w (aq f.agg (cs.take f.n))/\aD fs w (cs.drop f.n)
def pS (fs:List Fd):Pred:=λw v=>∃cs:List Value,v=.agg cs.toArray/\aD fs w cs
def aW:List Fd->Nat->Nat
 |[],_=>0
 |_::_,0=>0
 |f::fs,k+1=>f.n+aW fs k
def jt:List Fd->Nat
 |[]=>0
 |f::fs=>f.n+jt fs
theorem jg:∀{fs:List Fd} {w:World} {cs:List Value},aD fs w cs->cs.length=jt fs:=by
 intro fs
 induction fs with
 |nil=>intro w cs h; rw[show cs=[]from h]; rfl
 |cons f fs ih=>
  intro w cs h
  obtain⟨h1,_,h3⟩:=h
  have:=ih h3
  rw[List.length_drop]at this
  simp only[jt]
  omega
theorem rA:∀{fs:List Fd} {w:World} {cs:List Value} {k:Nat} {f:Fd},aD fs w cs->fs[k]?=some f->f.p w (aq f.agg ((cs.drop (aW fs k)).take f.n)):=by
 intro fs
 induction fs with
 |nil=>intro w cs k f _ hk; simp at hk
 |cons g fs ih=>
  intro w cs k f h hk
  obtain⟨h1,h2,h3⟩:=h
  cases k with
  |zero=>simp at hk; subst hk; exact h2
  |succ k=>
   have:=ih h3 (by simpa using hk)
   rw[List.drop_drop]at this
   exact this
variable {cs:List Value}
theorem bU {ds:List Value} (h:aq true cs=aq true ds):cs=ds:=by
 simp only[aq,if_true]at h
 injection h with h
 have:=congrArg Array.toList h
 simpa using this
variable {fs:List Fd}
theorem iU {N:Nat} (k:Nat) {f:Fd} (hk:fs[k]?=some f) {off:Nat} (ho:aW fs k=off):∀w cs,cs.length=N->pS fs w (aq true cs)->f.p w (aq f.agg ((cs.drop off).take f.n)):=by
 rintro w cs _ ⟨ds,e,h⟩
 have:=bU (show aq true cs=aq true ds from e)
 subst this
 rw[<-ho]
 exact rA h hk
theorem yS:∀{fs:List Fd} {w:World} {cs ds:List Value} {k:Nat} {f:Fd} {q:Pred},aD fs w cs->fs[k]?=some f->ds.length=f.n->q w (aq f.agg ds)->aD (fs.set k ⟨f.agg,f.n,q⟩) w (cs.take (aW fs k)++ds++cs.drop (aW fs k+f.n)):=by
 intro fs
 induction fs with
 |nil=>intro w cs ds k f q _ hk; simp at hk
 |cons g fs ih=>
  intro w cs ds k f q h hk hl hq
  obtain⟨h1,h2,h3⟩:=h
  cases k with
  |zero=>
   simp at hk
   subst hk
   refine⟨by simp[aW,hl],?_,?_⟩
   ·simp[aW,<-hl]; exact hq
   ·simp[aW,<-hl]
    rw[hl]
    exact h3
  |succ k=>
   have:=ih h3 (by simpa using hk) hl hq
   have hlen:=jg h3
   refine⟨?_,?_,?_⟩
   ·show g.n<=(cs.take (g.n+aW fs k)++ds++cs.drop (g.n+aW fs k+f.n)).length
    simp only[List.length_append,List.length_take,List.length_drop]
    omega
   ·have e:((cs.take (g.n+aW fs k)++ds++cs.drop (g.n+aW fs k+f.n)).take g.n)=cs.take g.n:=by
     rw[List.append_assoc,List.take_append_of_le_length (by simp; omega),List.take_take]
     congr 1; omega
    show g.p w (aq g.agg ((cs.take (g.n+aW fs k)++ds++cs.drop (g.n+aW fs k+f.n)).take g.n))
    rw[e]; exact h2
   ·show aD _ w ((cs.take (g.n+aW fs k)++ds++cs.drop (g.n+aW fs k+f.n)).drop g.n)
    have e:((cs.take (g.n+aW fs k)++ds++cs.drop (g.n+aW fs k+f.n)).drop g.n)=(cs.drop g.n).take (aW fs k)++ds++(cs.drop g.n).drop (aW fs k+f.n):=by
     have e1:g.n+aW fs k-g.n=aW fs k:=by omega
     have e2:g.n+(aW fs k+f.n)=g.n+aW fs k+f.n:=by omega
     rw[List.append_assoc,List.drop_append_of_le_length (by simp; omega),List.drop_take,e1,List.append_assoc,List.drop_drop,e2]
    rw[e]; exact this
theorem BM (h:∀f∈fs,av f.p):av (pS fs):=by
 rintro M w v hM ⟨cs,rfl,hc⟩
 have key:∀(fs:List Fd),(∀f∈fs,av f.p)->∀cs,aD fs w cs->aL M (λw=>aD fs w cs) w:=by
  intro fs
  induction fs with
  |nil=>intro _ cs h w' _; exact h
  |cons f fs ih=>
   rintro hf cs ⟨h1,h2,h3⟩ w' he
   exact⟨h1,hf f (by simp) M w _ hM h2 w' he,ih (λg hg=>hf g (List.mem_cons_of_mem _ hg)) _ h3 w' he⟩
 exactλw' he=>⟨cs,rfl,key fs h cs hc w' he⟩
def iN:List Fd->Prop
 |[]=>True
 |f::fs=>av f.p/\iN fs
theorem iN.get:∀{fs:List Fd},iN fs->∀f∈fs,av f.p:=by
 intro fs
 induction fs with
 |nil=>intro _ f hf; cases hf
 |cons g fs ih=>
  intro h f hf
  rcases List.mem_cons.1 hf with rfl|hf
  ·exact h.1
  ·exact ih h.2 f hf
theorem BN (h:iN fs):av (pS fs):=BM h.get
def oQ:List Fd->Prop
 |[]=>True
 |f::fs=>Fits f.n f.agg f.p/\oQ fs
theorem qy (h:oQ fs) {n:Nat} (hn:jt fs=n):Fits n true (pS fs):=by
 rintro w v ⟨cs,rfl,hc⟩
 refine⟨cs,rfl,by rw[<-hn]; exact jg hc,rfl,?_⟩
 have key:∀(fs:List Fd),oQ fs->∀cs,aD fs w cs->∀u∈cs,fq u/\u.oneCell'=true:=by
  intro fs
  induction fs with
  |nil=>intro _ cs h u hu; rw[show cs=[]from h]at hu; cases hu
  |cons f fs ih=>
   rintro⟨h0,Sv⟩ cs ⟨h1,h2,h3⟩ u hu
   rw[<-List.take_append_drop f.n cs,List.mem_append]at hu
   rcases hu with hu|hu
   ·obtain⟨ds,e,hl,hcells,h4⟩:=h0 w _ h2
    have:cs.take f.n=ds:=by
     cases hagg:f.agg with
     |true=>rw[hagg]at e; exact bU e
     |false=>
      rw[hagg]at e hcells
      have xE:=hcells
      rw[e]at xE
      match ds,hl,h4 with
      |[x],hl,h4=>
       have hl':(cs.take f.n).length=1:=by rw[List.length_take]; simp at hl; omega
       match hct:cs.take f.n,hl' with
       |[y],_=>
        rw[hct]at e
        simp only[aq,Bool.false_eq_true,if_false,List.headD_cons]at e
        rw[e]
      |[],hl,_=>
       exfalso
       simp only[aq,Bool.false_eq_true,if_false,List.headD_nil,undef,Value.cells]at xE
       exact absurd (congrArg Array.size xE) (by simp)
      |x::y::ds,hl,h4=>
       exfalso
       have:=h4 x (by simp)
       simp only[aq,Bool.false_eq_true,if_false,List.headD_cons]at xE
       cases x<;>simp[Value.oneCell',Value.cells]at this xE
    rw[this]at hu
    exact h4 u hu
   ·exact ih Sv _ h3 u hu
 exact key fs h cs hc
theorem J9 (h:aD fs w cs):pS fs w (.agg cs.toArray):=⟨cs,rfl,h⟩
theorem M6 (h:aD fs w cs):pS fs w (.agg cs.toArray):=⟨cs,rfl,h⟩
end Wx

namespace Wx
open Go Go.RowKit
theorem Bo (ds:List Value):∀(k:Nat) (cs:List Value) (off:Nat),off+k+ds.length<=cs.length ->
  ((ds.zipIdx k).foldl (λ(cs:Array Value) (q:Value×Nat)=>cs.setIfInBounds (off+q.2) q.1) cs.toArray)=(cs.take (off+k)++ds++cs.drop (off+k+ds.length)).toArray:=by
 induction ds with
 |nil=>intro k cs off _; simp
 |cons d ds ih=>
  intro k cs off h
  simp only[List.zipIdx_cons,List.foldl_cons]
  have e:cs.toArray.setIfInBounds (off+k) d=(cs.set (off+k) d).toArray:=by simp
  rw[e,ih (k+1) (cs.set (off+k) d) off (by simp at h ⊢; omega)]
  congr 1
  have:=list_seg_step cs (off+k) d ds (by simp at h; omega)
  simpa [Nat.add_assoc,Nat.add_comm 1,Nat.add_left_comm 1] using this
def Fd.form (g:Fd):Bool×Nat:=(g.agg,g.n)
def rO (fs:List Fd) (k:Nat) (p:Pred):List Fd:=match fs[k]? with
 |some f=>fs.set k ⟨f.agg,f.n,p⟩
 |none=>fs
def kT:List Fd->List (Nat×Pred)->List Fd
 |fs,[]=>fs
 |fs,(k,p)::r=>kT (rO fs k p) r
def nU (fs:List Fd) (w:World):List (Nat×Value)->List (Nat×Pred)->Prop
 |[],[]=>True
 |(i,v)::vs,(k,p)::ps=>(i=k/\p w v/\∃f,fs[k]?=some f/\Fits f.n f.agg p)/\nU fs w vs ps
 |_,_=>False
variable {fs:List Fd} {k:Nat} {f:Fd} {p:Pred}
theorem Ca (hk:fs[k]?=some f):∀j:Nat,((fs.set k ⟨f.agg,f.n,p⟩)[j]?).map Fd.form=(fs[j]?).map Fd.form:=by
 intro j
 rw[List.getElem?_set]
 by_cases h:k=j
 ·subst h
  simp only[if_true]
  split
  ·rw[hk]; rfl
  ·rename_i hlt
   rw[hk]
   rw[List.getElem?_eq_none (by omega)]at hk
   cases hk
 ·rw[if_neg h]
theorem Gm (hk:fs[k]?=some f):∀j,aW (fs.set k ⟨f.agg,f.n,p⟩) j=aW fs j:=by
 induction fs generalizing k with
 |nil=>simp at hk
 |cons g fs ih=>
  intro j
  cases k with
  |zero=>
   simp at hk
   subst hk
   cases j<;>rfl
  |succ k=>
   cases j with
   |zero=>rfl
   |succ j=>simp only[List.set_cons_succ,aW]; rw[ih (by simpa using hk)]
variable {w:World}
theorem nU.shape:∀{vs:List (Nat×Value)} {ps:List (Nat×Pred)} {fs gs:List Fd},(∀j:Nat,(gs[j]?).map Fd.form=(fs[j]?).map Fd.form)->nU fs w vs ps->nU gs w vs ps:=by
 intro vs
 induction vs with
 |nil=>intro ps fs gs h hp; cases ps<;>exact hp
 |cons v vs ih=>
  intro ps fs gs h hp
  cases ps with
  |nil=>exact hp
  |cons q ps=>
   obtain⟨i,v⟩:=v
   obtain⟨k,p⟩:=q
   obtain⟨⟨e,hv,f,hf,hfit⟩,hr⟩:=hp
   refine⟨⟨e,hv,?_⟩,ih h hr⟩
   have:=h k
   rw[hf]at this
   cases hg:gs[k]? with
   |none=>rw[hg]at this; cases this
   |some g=>
    rw[hg]at this
    simp only[Option.map_some,Option.some.injEq,Fd.form,Prod.mk.injEq]at this
    exact⟨g,rfl,by rw[this.1,this.2]; exact hfit⟩
theorem ya {n:Nat} {agg:Bool} (hf:Fits n agg p) {w:World} {v:Value} (h:p w v):∃cs:List Value,v=aq agg cs/\cs.length=n/\v.cells=cs.toArray:=by
 obtain⟨cs,h1,h2,h3,_⟩:=hf w v h
 exact⟨cs,h1,h2,h3⟩
theorem zU {pl:Nat->Option (Nat×Nat)}:∀(vs:List (Nat×Value)) (ps:List (Nat×Pred)) (fs:List Fd) (cs:List Value),(∀(k:Nat) (f:Fd),fs[k]?=some f->pl k=some (aW fs k,f.n))->aD fs w cs->nU fs w vs ps ->
  ∃cs':List Value,Instr.fill pl cs.toArray vs=some cs'.toArray/\aD (kT fs ps) w cs'/\∀w',aD fs w' cs->nU fs w' vs ps->aD (kT fs ps) w' cs':=by
 intro vs
 induction vs with
 |nil=>
  intro ps fs cs H8 hc hp
  cases ps with
  |nil=>exact⟨cs,rfl,hc,λ_ h _=>h⟩
  |cons q ps=>exact hp.elim
 |cons v vs ih=>
  intro ps fs cs H8 hc hp
  cases ps with
  |nil=>exact hp.elim
  |cons q ps=>
   obtain⟨i,v⟩:=v
   obtain⟨k,p⟩:=q
   obtain⟨⟨rfl,hv,f,hf,hfit⟩,hr⟩:=hp
   obtain⟨ds,e,hl,hcells⟩:=ya hfit hv
   have we:∀w',aD fs w' cs->p w' v->aD (rO fs i p) w' (cs.take (aW fs i)++ds++cs.drop (aW fs i+f.n)):=λw' h1 h2=>by
    unfold rO
    rw[hf]
    exact yS h1 hf hl (by rw[<-e]; exact h2)
   have hlen:=jg hc
   have hoff:aW fs i+f.n<=jt fs:=by
    clear H8 hr we hlen ih hc
    induction fs generalizing i with
    |nil=>simp at hf
    |cons g fs TI=>
     cases i with
     |zero=>simp at hf; subst hf; simp[aW,jt]
     |succ i=>have:=TI i (by simpa using hf); simp only[aW,jt]; omega
   have hsh:∀j:Nat,((rO fs i p)[j]?).map Fd.form=(fs[j]?).map Fd.form:=by
    unfold rO; rw[hf]; exact Ca hf
   obtain⟨cs',h1,h2,h3⟩:=ih ps (rO fs i p) (cs.take (aW fs i)++ds++cs.drop (aW fs i+f.n)) (λk g hg=>by
     have h4:=hsh k
     rw[hg]at h4
     cases hk:fs[k]? with
     |none=>rw[hk]at h4; cases h4
     |some g'=>
      rw[hk]at h4
      simp only[Option.map_some,Option.some.injEq,Fd.form,Prod.mk.injEq]at h4
      rw[H8 k g' hk,h4.2]
      have:aW (rO fs i p) k=aW fs k:=by unfold rO; rw[hf]; exact Gm hf k
      rw[this]) (we w hc hv) (hr.shape hsh)
   refine⟨cs',?_,h2,λw' k1 k2=>h3 w' (we w' k1 k2.1.2.1) (k2.2.shape hsh)⟩
   have hsz:v.cells.size=f.n:=by rw[hcells]; simpa using hl
   have:=Bo ds 0 cs (aW fs i) (by omega)
   simp only[Nat.add_zero,hl]at this
   unfold Instr.fill
   simp only[H8 i f hf,hsz,ne_eq,not_true_eq_false,decide_false,Bool.false_or]
   rw[if_neg (by simp; omega),hcells,show ds.toArray.zipIdx=(ds.zipIdx 0).toArray by simp]
   rw[<-h1,<-this]
   congr 1
   simp
section
variable {P:Program} {ops:Array Oper} {ms:List Nat} {c:cF} {V:List Vr} {A:List Al} {G:List aQ} {i:Nat}{d:Nat} {x y:Operand} {ty:TypeId} {pos:String} {aI:Array Edge}
def da (ms:List Nat) (G:List aQ) (i:Nat) (fs:List Fd):List (Nat×Operand)->List (Nat×Pred)->Prop
 |[],[]=>True
 |(j,x)::xs,(k,p)::ps=>(j=k/\Has ms G i x p/\∃f,fs[k]?=some f/\Fits f.n f.agg p)/\da ms G i fs xs ps
 |_,_=>False
end
end Wx
