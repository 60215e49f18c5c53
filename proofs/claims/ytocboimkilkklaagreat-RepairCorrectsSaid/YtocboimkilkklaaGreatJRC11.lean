import Derived.Deep.RegionHeld3
import Derived.Test.YtocboimkilkklaaGreatJRC10
import Derived.Laws.Tables
namespace Wx
open Go Go.RowKit Go.Proofs
variable {w w':World} {g:Nat} {x y z:Value} {e:TypeId}
theorem cW.gone (h:cW w g x y z e) (hb:Below w.heap.size w w'):cW w' g x y z e:=by
 refine h.below hb ?_
 unfold cW at h
 rcases Nat.lt_or_ge g w.heap.size with h1|h1
 ·exact h1
 ·rw[Array.getElem?_eq_none h1]at h; cases h
theorem ia (w:World) (x y z:Value) (e:TypeId):∃w',w.alloc (.cells #[x,y,z] e)=w'/\cW w' w.heap.size x y z e/\Below w.heap.size w w'/\w'.heap.size=w.heap.size+1:=
 ⟨_,rfl,cW.new _ _ _ _ _,Below.alloc (Below.refl _ _) (Nat.le_refl _) _,by simp⟩
theorem iS (q:Rat):q.num.natAbs=0↔q=0:=by
 rw[Int.natAbs_eq_zero]
 exact Rat.num_eq_zero
theorem zero_num (w:World) (v:Value) (q:Rat) (h:cm w v q):Calls Tryz.prog 15 #[v] w (dA w (.bool (decide (q=0)))):=by
 obtain⟨vn,vd,rfl,h1,h2⟩:=h
 obtain⟨A1,c1,rfl,_⟩:=id h1
 obtain⟨A2,c2,rfl,_⟩:=id h2
 have hz:(((ae b64 q.num.natAbs).length:Int)==0)=decide (q=0):=by
  by_cases hq:q=0
  ·rw[hq,decide_eq_true rfl]; rfl
  ·rw[decide_eq_false hq,beq_eq_false_iff_ne]
   have:=(av (n:=q.num.natAbs) ai).2 (by have:=mt (iS q).1 hq; omega)
   omega
 generalize (ae b64 q.num.natAbs).length=L1 at *
 go_enter Tryz.func15,Tryz.ntmps15
 go_wp2
 go_ret
 exact⟨rfl,Below.alloc (Below.refl _ _) (Nat.le_refl _) _⟩
theorem IU (q:Rat):decide ((-q).num<0)=(!decide (q.num<0)&&!decide (q=0)):=by
 rw[Rat.neg_num]
 have:=Rat.num_eq_zero (q:=q)
 by_cases h:q=0
 ·simp[h]
 ·have h1:=mt this.1 h
  rw[decide_eq_false h]
  by_cases h2:q.num<0
  ·simp[h2]; omega
  ·simp[h2]; omega
@[irreducible] def cv (w : World) (a : Addr) : Value := (w.cell? a).getD (.bool false)
theorem Dy {a:Addr} {v:Value} (h:w.cell? a=some v):w.cell? a=some (cv w a):=by unfold cv; rw[h]; rfl
def eF (v:Value):Prop:=∀k n,v≠.int k n
theorem dL (b:Bool):eF (.bool b):=by intro k n h; cases h
theorem bh (A:Option Addr) (l c:Nat):eF (.slice A l c):=by intro k n h; cases h
def bw (w:World) (r:Nat) (e:TypeId) (ps:List (Nat×Value×Value×Value)) (w':World):Prop:=
 Below w.heap.size w w'/\w.heap.size<=r/\(∀p∈ps,p.1≠r/\cW w' p.1 p.2.1 p.2.2.1 p.2.2.2 e)/\∃a b c,cW w' r a b c e/\eF a/\eF b/\eF c
variable {r:Nat} {ps:List (Nat×Value×Value×Value)} {p:Prop}
theorem bw.call {w'':World} (h:bw w r e ps w'/\p) (hb:Below w'.heap.size w' w''):bw w r e ps w'':=by
 obtain⟨⟨h1,h2,h3,a,b,c,h4,h5⟩,_⟩:=h
 exact⟨h1.trans (hb.mono h1.size),h2,λp hp=>⟨(h3 p hp).1,(h3 p hp).2.gone hb⟩,a,b,c,h4.gone hb,h5⟩
theorem bw.drew (h:bw w r e ps w'):bw w r e ps w'.drew:=by
 obtain⟨h1,h2,h3,h4⟩:=h
 exact⟨h1.drew,h2,h3,h4⟩
theorem cW.KE (h:cW w g x y z e) (hr:g≠r) (i:Nat) (u:Value):cW (w.setCell ⟨r,i,none⟩ u) g x y z e:=(Below.heap_setCell w ⟨r,i,none⟩ u g hr).trans h
theorem bw.LN (h:bw w r e ps w') {u:Value} (hu:eF u):bw w r e ps (w'.setCell ⟨r,0,none⟩ u):=by
 obtain⟨h1,h2,h3,a,b,c,h4,h5,h6,h7⟩:=h
 exact⟨h1.setCell h2 _,h2,λp hp=>⟨(h3 p hp).1,(h3 p hp).2.KE (h3 p hp).1 _ _⟩,u,b,c,h4.LN u,hu,h6,h7⟩
theorem bw.LO (h:bw w r e ps w') {u:Value} (hu:eF u):bw w r e ps (w'.setCell ⟨r,1,none⟩ u):=by
 obtain⟨h1,h2,h3,a,b,c,h4,h5,h6,h7⟩:=h
 exact⟨h1.setCell h2 _,h2,λp hp=>⟨(h3 p hp).1,(h3 p hp).2.KE (h3 p hp).1 _ _⟩,a,u,c,h4.LO u,h5,hu,h7⟩
theorem bw.LP (h:bw w r e ps w') {u:Value} (hu:eF u):bw w r e ps (w'.setCell ⟨r,2,none⟩ u):=by
 obtain⟨h1,h2,h3,a,b,c,h4,h5,h6,h7⟩:=h
 exact⟨h1.setCell h2 _,h2,λp hp=>⟨(h3 p hp).1,(h3 p hp).2.KE (h3 p hp).1 _ _⟩,a,b,u,h4.LP u,h5,h6,hu⟩
theorem bw.sets (h:bw w r e ps w'/\p) (b:Bool) (A1 A2:Option Addr) (l1 l2 c1 c2:Nat):
  bw w r e ps (((w'.setCell ⟨r,0,none⟩ (.bool b)).setCell ⟨r,1,none⟩ (.slice A1 l1 c1)).setCell ⟨r,2,none⟩ (.slice A2 l2 c2)):=
 ((h.1.LN (dL _)).LO (bh _ _ _)).LP (bh _ _ _)
theorem bw.cells (h:bw w r e ps w'):
  w'.cell? ⟨r,0,none⟩=some (cv w' ⟨r,0,none⟩)/\w'.cell? ⟨r,1,none⟩=some (cv w' ⟨r,1,none⟩)/\w'.cell? ⟨r,2,none⟩=some (cv w' ⟨r,2,none⟩)/\w'.frozen? ⟨r,0,none⟩=false/\w'.frozen? ⟨r,1,none⟩=false/\w'.frozen? ⟨r,2,none⟩=false:=by
 obtain⟨_,_,_,a,b,c,h4,_⟩:=h
 exact⟨Dy h4.c0,Dy h4.c1,Dy h4.c2,h4.fz 0,h4.fz 1,h4.fz 2⟩
theorem bw.fin {q:Rat} {neg:Bool} {A1 A2:Option Addr} {l1 l2 c1 c2:Nat} (h:bw w r e ps w') (hn:decide (q.num<0)=neg) (h1:bt .u64 b64 w' (.slice A1 l1 c1) q.num.natAbs) (h2:bt .u64 b64 w' (.slice A2 l2 c2) (ak q.den)):
  ∃wf,((w'.setCell ⟨r,0,none⟩ (.bool neg)).setCell ⟨r,1,none⟩ (.slice A1 l1 c1)).setCell ⟨r,2,none⟩ (.slice A2 l2 c2)=wf/\wf.cell? ⟨r,0,none⟩=some (.bool neg)/\wf.cell? ⟨r,1,none⟩=some (.slice A1 l1 c1)/\wf.cell? ⟨r,2,none⟩=some (.slice A2 l2 c2) /\
   kZ w q (.returned (.agg #[.bool neg,.slice A1 l1 c1,.slice A2 l2 c2])) wf:=by
 obtain⟨g1,g2,_,a,b,c,h4,h5,h6,h7⟩:=h
 exact qf g2 g1 h4 h5 h6 h7 hn h1 h2
end Wx

namespace Wx
open Go Go.RowKit
variable {M:Nat->Nat->Prop} {w:World} {k:IntKind}
theorem Pb {A:Option Addr} {c:Nat} {l:List Nat} (hM:dz M w) (hk:k=.u64\/k=.u32) (h:Rd w k A c l):aP M (λw=>Rd w k A c l) w:=by
 intro w' he
 obtain⟨h1,h2,h3⟩:=h
 refine⟨h1,h2,λhne=>?_⟩
 obtain⟨b,o,e,hc⟩:=h3 hne
 refine⟨b,o,e,λi hi=>he.cell b (o+i) _ (λhm=>?_) (hc i hi)⟩
 have:=(hM b (o+i) hm).2 _ (hc i hi)
 rcases hk with rfl|rfl
 ·exact(this _).1 rfl
 ·exact(this _).2 rfl
variable {v:Value}
theorem nK {b n:Nat} (hM:dz M w) (hk:k=.u64\/k=.u32) (h:bt k b w v n):aP M (λw=>bt k b w v n) w:=by
 obtain⟨A,c,rfl,hr⟩:=h
 exactλw' he=>⟨A,c,rfl,Pb hM hk hr w' he⟩
def aD (q:Rat):Pred:=λw v=>cm w v q
theorem eC (q:Rat):au (aD q):=by
 rintro M w v hM ⟨vn,vd,rfl,h1,h2⟩ w' he
 exact⟨vn,vd,rfl,nK hM (.inl rfl) h1 w' he,nK hM (.inl rfl) h2 w' he⟩
theorem uh (b:Bool):gm (.bool b):=λ_=>⟨(by simp),by simp⟩
theorem fZ (A:Option Addr) (l c:Nat):gm (.slice A l c):=λ_=>⟨(by simp),by simp⟩
theorem pU (n:Int):gm (.int .i64 n):=λ_=>⟨(by simp),by simp⟩
theorem Cu (s:ByteArray):gm (.string s):=λ_=>⟨(by simp),by simp⟩
theorem bg (q:Rat):Fits 3 true (aD q):=by
 rintro w v ⟨vn,vd,rfl,h1,h2⟩
 obtain⟨A,c,rfl,_⟩:=h1
 obtain⟨B,d,rfl,_⟩:=h2
 refine⟨[_,_,_],rfl,rfl,rfl,?_⟩
 intro u hu
 simp at hu
 rcases hu with rfl|rfl|rfl
 ·exact⟨uh _,rfl⟩
 ·exact⟨fZ _ _ _,rfl⟩
 ·exact⟨fZ _ _ _,rfl⟩
theorem pA (hn:gm v) (h1:v.oneCell'=true) (hc:v.cells=#[v]):Fits 1 false (bY v):=by
 intro w u hu
 have hu:u=v:=hu
 subst hu
 refine⟨[u],rfl,rfl,hc,?_⟩
 intro x hx
 simp at hx
 subst hx
 exact⟨hn,h1⟩
theorem fits_int (n:Int):Fits 1 false (pI n):=pA (pU n) rfl rfl
theorem fits_bool (b:Bool):Fits 1 false (pB b):=pA (uh b) rfl rfl
theorem zZ (s:ByteArray):Fits 1 false (bY (.string s)):=pA (Cu s) rfl rfl
structure Fd where
 agg:Bool
 n:Nat
 p:Pred
def aG:List Fd->World->List Value->Prop
 |[],_,cs=>cs=[]
 |f::fs,w,cs=>f.n<=cs.length/\f.p w (aq f.agg (cs.take f.n))/\aG fs w (cs.drop f.n)
def pS (fs:List Fd):Pred:=λw v=>∃cs:List Value,v=.agg cs.toArray/\aG fs w cs
def bA:List Fd->Nat->Nat
 |[],_=>0
 |_::_,0=>0
 |f::fs,k+1=>f.n+bA fs k
def kR:List Fd->Nat
 |[]=>0
 |f::fs=>f.n+kR fs
theorem gK:∀{fs:List Fd} {w:World} {cs:List Value},aG fs w cs->cs.length=kR fs:=by
 intro fs
 induction fs with
 |nil=>intro w cs h; rw[show cs=[]from h]; rfl
 |cons f fs ih=>
  intro w cs h
  obtain⟨h1,_,h3⟩:=h
  have:=ih h3
  rw[List.length_drop]at this
  simp only[kR]
  omega
theorem uy:∀{fs:List Fd} {w:World} {cs:List Value} {k:Nat} {f:Fd},aG fs w cs->fs[k]?=some f->f.p w (aq f.agg ((cs.drop (bA fs k)).take f.n)):=by
 intro fs
 induction fs with
 |nil=>intro w cs k f _ hk; simp at hk
 |cons g fs ih=>
  intro w cs k f h hk
  obtain⟨h1,h2,h3⟩:=h
  cases k with
  |zero=>simp at hk; subst hk; exact h2
  |succ k=>
   have:=ih h3 (by simpa using hk)
   rw[List.drop_drop]at this
   exact this
variable {cs:List Value}
theorem cT {ds:List Value} (h:aq true cs=aq true ds):cs=ds:=by
 simp only[aq,if_true]at h
 injection h with h
 have:=congrArg Array.toList h
 simpa using this
variable {fs:List Fd}
theorem fu {N:Nat} (k:Nat) {f:Fd} (hk:fs[k]?=some f) {off:Nat} (ho:bA fs k=off):∀w cs,cs.length=N->pS fs w (aq true cs)->f.p w (aq f.agg ((cs.drop off).take f.n)):=by
 rintro w cs _ ⟨ds,e,h⟩
 have:=cT (show aq true cs=aq true ds from e)
 subst this
 rw[<-ho]
 exact uy h hk
theorem CG:∀{fs:List Fd} {w:World} {cs ds:List Value} {k:Nat} {f:Fd} {q:Pred},aG fs w cs->fs[k]?=some f->ds.length=f.n->q w (aq f.agg ds)->aG (fs.set k ⟨f.agg,f.n,q⟩) w (cs.take (bA fs k)++ds++cs.drop (bA fs k+f.n)):=by
 intro fs
 induction fs with
 |nil=>intro w cs ds k f q _ hk; simp at hk
 |cons g fs ih=>
  intro w cs ds k f q h hk hl hq
  obtain⟨h1,h2,h3⟩:=h
  cases k with
  |zero=>
   simp at hk
   subst hk
   refine⟨by simp[bA,hl],?_,?_⟩
   ·simp[bA,<-hl]; exact hq
   ·simp[bA,<-hl]
    rw[hl]
    exact h3
  |succ k=>
   have:=ih h3 (by simpa using hk) hl hq
   have hlen:=gK h3
   refine⟨?_,?_,?_⟩
   ·show g.n<=(cs.take (g.n+bA fs k)++ds++cs.drop (g.n+bA fs k+f.n)).length
    simp only[List.length_append,List.length_take,List.length_drop]
    omega
   ·have e:((cs.take (g.n+bA fs k)++ds++cs.drop (g.n+bA fs k+f.n)).take g.n)=cs.take g.n:=by
     rw[List.append_assoc,List.take_append_of_le_length (by simp; omega),List.take_take]
     congr 1; omega
    show g.p w (aq g.agg ((cs.take (g.n+bA fs k)++ds++cs.drop (g.n+bA fs k+f.n)).take g.n))
    rw[e]; exact h2
   ·show aG _ w ((cs.take (g.n+bA fs k)++ds++cs.drop (g.n+bA fs k+f.n)).drop g.n)
    have e:((cs.take (g.n+bA fs k)++ds++cs.drop (g.n+bA fs k+f.n)).drop g.n)=(cs.drop g.n).take (bA fs k)++ds++(cs.drop g.n).drop (bA fs k+f.n):=by
     have e1:g.n+bA fs k-g.n=bA fs k:=by omega
     have e2:g.n+(bA fs k+f.n)=g.n+bA fs k+f.n:=by omega
     rw[List.append_assoc,List.drop_append_of_le_length (by simp; omega),List.drop_take,e1,List.append_assoc,List.drop_drop,e2]
    rw[e]; exact this
def di (a b:Rat):Pred:=pS [⟨true,3,aD a⟩,⟨true,3,aD b⟩]
theorem FM (h:∀f∈fs,au f.p):au (pS fs):=by
 rintro M w v hM ⟨cs,rfl,hc⟩
 have key:∀(fs:List Fd),(∀f∈fs,au f.p)->∀cs,aG fs w cs->aP M (λw=>aG fs w cs) w:=by
  intro fs
  induction fs with
  |nil=>intro _ cs h w' _; exact h
  |cons f fs ih=>
   rintro hf cs ⟨h1,h2,h3⟩ w' he
   exact⟨h1,hf f (by simp) M w _ hM h2 w' he,ih (λg hg=>hf g (List.mem_cons_of_mem _ hg)) _ h3 w' he⟩
 exactλw' he=>⟨cs,rfl,key fs h cs hc w' he⟩
def kY:List Fd->Prop
 |[]=>True
 |f::fs=>au f.p/\kY fs
theorem kY.get:∀{fs:List Fd},kY fs->∀f∈fs,au f.p:=by
 intro fs
 induction fs with
 |nil=>intro _ f hf; cases hf
 |cons g fs ih=>
  intro h f hf
  rcases List.mem_cons.1 hf with rfl|hf
  ·exact h.1
  ·exact ih h.2 f hf
theorem FN (h:kY fs):au (pS fs):=FM h.get
def oU:List Fd->Prop
 |[]=>True
 |f::fs=>Fits f.n f.agg f.p/\oU fs
theorem jZ (h:oU fs) {n:Nat} (hn:kR fs=n):Fits n true (pS fs):=by
 rintro w v ⟨cs,rfl,hc⟩
 refine⟨cs,rfl,by rw[<-hn]; exact gK hc,rfl,?_⟩
 have key:∀(fs:List Fd),oU fs->∀cs,aG fs w cs->∀u∈cs,gm u/\u.oneCell'=true:=by
  intro fs
  induction fs with
  |nil=>intro _ cs h u hu; rw[show cs=[]from h]at hu; cases hu
  |cons f fs ih=>
   rintro⟨h0,Wo⟩ cs ⟨h1,h2,h3⟩ u hu
   rw[<-List.take_append_drop f.n cs,List.mem_append]at hu
   rcases hu with hu|hu
   ·obtain⟨ds,e,hl,hcells,h4⟩:=h0 w _ h2
    have:cs.take f.n=ds:=by
     cases hagg:f.agg with
     |true=>rw[hagg]at e; exact cT e
     |false=>
      rw[hagg]at e hcells
      have qx:=hcells
      rw[e]at qx
      match ds,hl,h4 with
      |[x],hl,h4=>
       have hl':(cs.take f.n).length=1:=by rw[List.length_take]; simp at hl; omega
       match hct:cs.take f.n,hl' with
       |[y],_=>
        rw[hct]at e
        simp only[aq,Bool.false_eq_true,if_false,List.headD_cons]at e
        rw[e]
      |[],hl,_=>
       exfalso
       simp only[aq,Bool.false_eq_true,if_false,List.headD_nil,undef,Value.cells]at qx
       exact absurd (congrArg Array.size qx) (by simp)
      |x::y::ds,hl,h4=>
       exfalso
       have:=h4 x (by simp)
       simp only[aq,Bool.false_eq_true,if_false,List.headD_cons]at qx
       cases x<;>simp[Value.oneCell',Value.cells]at this qx
    rw[this]at hu
    exact h4 u hu
   ·exact ih Wo _ h3 u hu
 exact key fs h cs hc
theorem fg (a b:Rat):Fits 6 true (di a b):=jZ (fs:=[⟨true,3,aD a⟩,⟨true,3,aD b⟩]) ⟨bg a,bg b,trivial⟩ rfl
theorem Jh (h:aG fs w cs):pS fs w (.agg cs.toArray):=⟨cs,rfl,h⟩
def Je (n d:Int):Pred:=pS [⟨false,1,pI n⟩,⟨false,1,pI d⟩]
theorem E4 (n d:Int):Fits 2 true (Je n d):=jZ (fs:=[⟨false,1,pI n⟩,⟨false,1,pI d⟩]) ⟨fits_int n,fits_int d,trivial⟩ rfl
theorem AU {n d:Int} (h:Je n d w v):v=.agg #[.int .i64 n,.int .i64 d]:=by
 obtain⟨cs,rfl,hc⟩:=h
 have hl:=gK hc
 match cs,hl,hc with
 |[x,y],_,hc=>
  obtain⟨_,h1,_,h2,_⟩:=hc
  have e1:x=.int .i64 n:=h1
  have e2:y=.int .i64 d:=h2
  rw[e1,e2]
theorem AV (h:aG fs w cs):pS fs w (.agg cs.toArray):=⟨cs,rfl,h⟩
theorem th (w:World):aG [⟨true,3,dG⟩,⟨true,3,dG⟩] w [.bool false,.slice none 0 0,.slice none 0 0,.bool false,.slice none 0 0,.slice none 0 0]:=⟨by simp,trivial,by simp,trivial,rfl⟩
theorem gX (w:World):aG [⟨true,3,aD 0⟩,⟨true,3,aD 0⟩] w [.bool false,.slice none 0 0,.slice none 0 0,.bool false,.slice none 0 0,.slice none 0 0]:=⟨by simp,cU _,by simp,cU _,rfl⟩
end Wx

namespace Wx
open Go Go.RowKit
def xG (P:Program) (T:TypeId) (pl:Array (Nat×Nat)) (z:List Value):Prop:=
 ∀parts,P.built T parts=Instr.fill (λi=>pl[i]?) z.toArray parts
theorem E5 (ds:List Value):∀(k:Nat) (cs:List Value) (off:Nat),off+k+ds.length<=cs.length ->
  ((ds.zipIdx k).foldl (λ(cs:Array Value) (q:Value×Nat)=>cs.setIfInBounds (off+q.2) q.1) cs.toArray)=(cs.take (off+k)++ds++cs.drop (off+k+ds.length)).toArray:=by
 induction ds with
 |nil=>intro k cs off _; simp
 |cons d ds ih=>
  intro k cs off h
  simp only[List.zipIdx_cons,List.foldl_cons]
  have e:cs.toArray.setIfInBounds (off+k) d=(cs.set (off+k) d).toArray:=by simp
  rw[e,ih (k+1) (cs.set (off+k) d) off (by simp at h ⊢; omega)]
  congr 1
  have:=list_seg_step cs (off+k) d ds (by simp at h; omega)
  simpa [Nat.add_assoc,Nat.add_comm 1,Nat.add_left_comm 1] using this
def Fd.form (g:Fd):Bool×Nat:=(g.agg,g.n)
def uR (fs:List Fd) (k:Nat) (p:Pred):List Fd:=match fs[k]? with
 |some f=>fs.set k ⟨f.agg,f.n,p⟩
 |none=>fs
def ni:List Fd->List (Nat×Pred)->List Fd
 |fs,[]=>fs
 |fs,(k,p)::r=>ni (uR fs k p) r
def oW (fs:List Fd) (w:World):List (Nat×Value)->List (Nat×Pred)->Prop
 |[],[]=>True
 |(i,v)::vs,(k,p)::ps=>(i=k/\p w v/\∃f,fs[k]?=some f/\Fits f.n f.agg p)/\oW fs w vs ps
 |_,_=>False
variable {fs:List Fd} {k:Nat} {f:Fd} {p:Pred}
theorem Gd (hk:fs[k]?=some f):∀j:Nat,((fs.set k ⟨f.agg,f.n,p⟩)[j]?).map Fd.form=(fs[j]?).map Fd.form:=by
 intro j
 rw[List.getElem?_set]
 by_cases h:k=j
 ·subst h
  simp only[if_true]
  split
  ·rw[hk]; rfl
  ·rename_i hlt
   rw[hk]
   rw[List.getElem?_eq_none (by omega)]at hk
   cases hk
 ·rw[if_neg h]
theorem Lx (hk:fs[k]?=some f):∀j,bA (fs.set k ⟨f.agg,f.n,p⟩) j=bA fs j:=by
 induction fs generalizing k with
 |nil=>simp at hk
 |cons g fs ih=>
  intro j
  cases k with
  |zero=>
   simp at hk
   subst hk
   cases j<;>rfl
  |succ k=>
   cases j with
   |zero=>rfl
   |succ j=>simp only[List.set_cons_succ,bA]; rw[ih (by simpa using hk)]
variable {w:World}
theorem oW.shape:∀{vs:List (Nat×Value)} {ps:List (Nat×Pred)} {fs gs:List Fd},(∀j:Nat,(gs[j]?).map Fd.form=(fs[j]?).map Fd.form)->oW fs w vs ps->oW gs w vs ps:=by
 intro vs
 induction vs with
 |nil=>intro ps fs gs h hp; cases ps<;>exact hp
 |cons v vs ih=>
  intro ps fs gs h hp
  cases ps with
  |nil=>exact hp
  |cons q ps=>
   obtain⟨i,v⟩:=v
   obtain⟨k,p⟩:=q
   obtain⟨⟨e,hv,f,hf,hfit⟩,hr⟩:=hp
   refine⟨⟨e,hv,?_⟩,ih h hr⟩
   have:=h k
   rw[hf]at this
   cases hg:gs[k]? with
   |none=>rw[hg]at this; cases this
   |some g=>
    rw[hg]at this
    simp only[Option.map_some,Option.some.injEq,Fd.form,Prod.mk.injEq]at this
    exact⟨g,rfl,by rw[this.1,this.2]; exact hfit⟩
theorem B3 {n:Nat} {agg:Bool} (hf:Fits n agg p) {w:World} {v:Value} (h:p w v):∃cs:List Value,v=aq agg cs/\cs.length=n/\v.cells=cs.toArray:=by
 obtain⟨cs,h1,h2,h3,_⟩:=hf w v h
 exact⟨cs,h1,h2,h3⟩
theorem yj {pl:Nat->Option (Nat×Nat)}:∀(vs:List (Nat×Value)) (ps:List (Nat×Pred)) (fs:List Fd) (cs:List Value),(∀(k:Nat) (f:Fd),fs[k]?=some f->pl k=some (bA fs k,f.n))->aG fs w cs->oW fs w vs ps ->
  ∃cs':List Value,Instr.fill pl cs.toArray vs=some cs'.toArray/\aG (ni fs ps) w cs'/\∀w',aG fs w' cs->oW fs w' vs ps->aG (ni fs ps) w' cs':=by
 intro vs
 induction vs with
 |nil=>
  intro ps fs cs J3 hc hp
  cases ps with
  |nil=>exact⟨cs,rfl,hc,λ_ h _=>h⟩
  |cons q ps=>exact hp.elim
 |cons v vs ih=>
  intro ps fs cs J3 hc hp
  cases ps with
  |nil=>exact hp.elim
  |cons q ps=>
   obtain⟨i,v⟩:=v
   obtain⟨k,p⟩:=q
   obtain⟨⟨rfl,hv,f,hf,hfit⟩,hr⟩:=hp
   obtain⟨ds,e,hl,hcells⟩:=B3 hfit hv
   have Ao:∀w',aG fs w' cs->p w' v->aG (uR fs i p) w' (cs.take (bA fs i)++ds++cs.drop (bA fs i+f.n)):=λw' h1 h2=>by
    unfold uR
    rw[hf]
    exact CG h1 hf hl (by rw[<-e]; exact h2)
   have hlen:=gK hc
   have hoff:bA fs i+f.n<=kR fs:=by
    clear J3 hr Ao hlen ih hc
    induction fs generalizing i with
    |nil=>simp at hf
    |cons g fs Zh=>
     cases i with
     |zero=>simp at hf; subst hf; simp[bA,kR]
     |succ i=>have:=Zh i (by simpa using hf); simp only[bA,kR]; omega
   have hsh:∀j:Nat,((uR fs i p)[j]?).map Fd.form=(fs[j]?).map Fd.form:=by
    unfold uR; rw[hf]; exact Gd hf
   obtain⟨cs',h1,h2,h3⟩:=ih ps (uR fs i p) (cs.take (bA fs i)++ds++cs.drop (bA fs i+f.n)) (λk g hg=>by
     have h4:=hsh k
     rw[hg]at h4
     cases hk:fs[k]? with
     |none=>rw[hk]at h4; cases h4
     |some g'=>
      rw[hk]at h4
      simp only[Option.map_some,Option.some.injEq,Fd.form,Prod.mk.injEq]at h4
      rw[J3 k g' hk,h4.2]
      have:bA (uR fs i p) k=bA fs k:=by unfold uR; rw[hf]; exact Lx hf k
      rw[this]) (Ao w hc hv) (hr.shape hsh)
   refine⟨cs',?_,h2,λw' k1 k2=>h3 w' (Ao w' k1 k2.1.2.1) (k2.2.shape hsh)⟩
   have hsz:v.cells.size=f.n:=by rw[hcells]; simpa using hl
   have:=E5 ds 0 cs (bA fs i) (by omega)
   simp only[Nat.add_zero,hl]at this
   unfold Instr.fill
   simp only[J3 i f hf,hsz,ne_eq,not_true_eq_false,decide_false,Bool.false_or]
   rw[if_neg (by simp; omega),hcells,show ds.toArray.zipIdx=(ds.zipIdx 0).toArray by simp]
   rw[<-h1,<-this]
   congr 1
   simp
section
variable {P:Program} {ops:Array Oper} {ms:List Nat} {c:dS} {V:List Vr} {A:List Al} {G:List bf} {i:Nat}{d:Nat} {x y:Operand} {ty:TypeId} {pos:String} {aJ:Array Edge}
def cA (ms:List Nat) (G:List bf) (i:Nat) (fs:List Fd):List (Nat×Operand)->List (Nat×Pred)->Prop
 |[],[]=>True
 |(j,x)::xs,(k,p)::ps=>(j=k/\Has ms G i x p/\∃f,fs[k]?=some f/\Fits f.n f.agg p)/\cA ms G i fs xs ps
 |_,_=>False
theorem pX {T:TypeId} {parts:Array (Nat×Operand)} {pl:Array (Nat×Nat)} {z:List Value} {fs gs:List Fd} {ps:List (Nat×Pred)} (ht:xG P T pl z) (J3:∀(k:Nat) (f:Fd),fs[k]?=some f->pl[k]?=some (bA fs k,f.n)) (hz:∀w,aG fs w z)
  (hps:cA ms G i fs parts.toList ps) (hg:ni fs ps=gs) (hp:Post G i (pS gs)):
  OpOk P ops ms c V A G i ⟨some d,.build T parts,ty,pos,aJ,none⟩:=
 dg rfl rfl rfl (.inl rfl) hp λL β a w hI hd=>by
  have key:∀(xs:List (Nat×Operand)) (ps:List (Nat×Pred)),cA ms G i fs xs ps->aP (own c V L β) (λw=>oW fs w (xs.map λq=>(q.1,a.eval q.2)) ps) w:=by
   intro xs
   induction xs with
   |nil=>intro ps h; cases ps<;>exactλ_ _=>h
   |cons q xs ih=>
    intro ps h
    obtain⟨j,x⟩:=q
    cases ps with
    |nil=>exact h.elim
    |cons r ps=>
     obtain⟨k,p⟩:=r
     obtain⟨⟨e,h1,h2⟩,h3⟩:=h
     exactλw' he=>⟨⟨e,h1.spec hI hd w' he,h2⟩,ih ps h3 w' he⟩
  have hb:=key _ _ hps
  obtain⟨cs',h1,h2,h3⟩:=yj (pl:=λi=>pl[i]?) _ _ fs z J3 (hz w) hb.out
  refine⟨.agg cs'.toArray,w,?_,Below.refl _ _,λw' he=>?_⟩
  ·show(do pure (Next.value (<-Instr.build T (parts.map λ(i,x)=>(i,a.eval x))))).run P w=_
   have e:(parts.map λ(i,x)=>(i,a.eval x)).toList=parts.toList.map λq=>(q.1,a.eval q.2):=by simp
   rw[Sem.run_bind,run_build w T _ cs'.toArray (by rw[e,ht]; exact h1)]
   rfl
  ·rw[<-hg]
   exact AV (h3 w' (hz w') (hb w' he))
end
def Xh (fs:List Fd) (pl:Array (Nat×Nat)):Bool:=(List.range fs.length).all λk=>match fs[k]? with
 |some f=>pl[k]?==some (bA fs k,f.n)
 |none=>true
theorem nN {fs:List Fd} {pl:Array (Nat×Nat)} (h:Xh fs pl=true):∀(k:Nat) (f:Fd),fs[k]?=some f->pl[k]?=some (bA fs k,f.n):=by
 intro k f hk
 unfold Xh at h
 rw[List.all_eq_true]at h
 have hlt:k<fs.length:=by
  rcases Nat.lt_or_ge k fs.length with h'|h'
  ·exact h'
  ·rw[List.getElem?_eq_none h']at hk; cases hk
 have:=h k (List.mem_range.2 hlt)
 rw[hk]at this
 simpa using this
end Wx
