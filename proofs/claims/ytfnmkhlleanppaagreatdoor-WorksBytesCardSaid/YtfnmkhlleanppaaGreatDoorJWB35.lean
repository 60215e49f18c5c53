import Derived.Test.YtfnmkhlleanppaaGreatDoorJWB33
import Derived.Test.YtfnmkhlleanppaaGreatDoorJWB29
namespace Wx
open Go Go.RowKit
def dQ (l:List Value) (p:Nat):List It:=l.map xh++List.replicate (p-l.length) yK
variable {l:List Value} {p k:Nat}
theorem eN (h:k<l.length):(dQ l p)[k]?=some (xh l[k]):=by
 unfold dQ
 rw[List.getElem?_append_left (by rw[List.length_map]; exact h),List.getElem?_map,List.getElem?_eq_getElem h]
 rfl
theorem fA (l:List Value) (p:Nat):(dQ l p).length=max l.length p:=by
 unfold dQ
 rw[List.length_append,List.length_map,List.length_replicate]
 omega
theorem vI {v:Value} (h:k<l.length):(dQ l p).set k (xh v)=dQ (l.set k v) p:=by
 unfold dQ
 rw[List.set_append_left _ _ (by rw[List.length_map]; exact h),List.map_set,List.length_set]
theorem po {i:Nat} {it:It} (h:l.length<=i) (hi:(dQ l p)[i]?=some it):it=yK:=by
 unfold dQ at hi
 rw[List.getElem?_append_right (by rw[List.length_map]; exact h)]at hi
 exact List.eq_of_mem_replicate (List.mem_of_getElem? hi)
abbrev fB (b:Nat) (l:List Value) (p:Nat):Bk:=⟨b,1,false,dQ l p⟩
def iq (H:List Bk) (b:Nat) (items:List It):List Bk:=⟨b,1,false,items⟩::H.filter λe=>e.b != b
variable {H:List Bk} {b:Nat} {items:List It}
theorem ir:(⟨b,1,false,items⟩:Bk)∈iq H b items:=List.mem_cons_self ..
theorem fI {e:Bk} (he:e∈H) (hb:e.b≠b):e∈iq H b items:=List.mem_cons_of_mem _ (List.mem_filter.2 ⟨he,by simpa using hb⟩)
def gN (H:List Bk) (hv:Value) (N:Nat) (x:Nat×Nat):Prop:=N<=x.2/\x.2<=maxLen/\((∃n c,hv=.slice (some ⟨x.1,0,none⟩) n c)\/∀e,e∈H->e.b≠x.1)
def vt (H:List Bk) (hv:Value) (N sz:Nat) (l:List Value):Rel:=λB w v=>∃x:Nat×Nat,gN H hv N x/\v=.slice (some ⟨x.1,0,none⟩) N x.2/\bN B w (iq H x.1 (dQ l (x.2*sz)))
theorem bN.BK {B:Nat->Prop} {M:Nat->Nat->Prop} {w w':World} (h:bN B w H) (hM:dm M w) (he:Ext M w w') (hb:∀k,k<w.heap.size->k≠b->w'.heap[k]?=w.heap[k]?) (hn:(⟨b,1,false,items⟩:Bk).ok w'):bN (λk=>B k\/k=b) w' (iq H b items):=by
 obtain⟨h1,h2,h3⟩:=h
 refine⟨λk=>⟨?_,?_⟩,List.pairwise_cons.2 ⟨λe hm=>?_,h2.filter _⟩,λe hm=>?_⟩
 ·rintro(hk|rfl)
  ·obtain⟨e,hm,rfl⟩:=(h1 k).1 hk
   by_cases hb':e.b=b
   ·exact⟨_,ir,hb'.symm⟩
   ·exact⟨e,fI hm hb',rfl⟩
  ·exact⟨_,ir,rfl⟩
 ·rintro⟨e,hm,rfl⟩
  rcases List.mem_cons.1 hm with rfl|hm
  ·exact .inr rfl
  ·exact .inl ((h1 _).2 ⟨e,(List.mem_filter.1 hm).1,rfl⟩)
 ·have:=(List.mem_filter.1 hm).2
  exactλe'=>by rw[<-e']at this; simp at this
 ·rcases List.mem_cons.1 hm with rfl|hm
  ·exact hn
  ·have hm':=List.mem_filter.1 hm
   exact Bk.ny (h3 e hm'.1) hM he (hb _ (Bk.gT (h3 e hm'.1)) (by simpa using hm'.2))
section
variable {P:Program} {ops:Array Oper} {ms:List Nat} {c:bJ} {V:List Vr} {A:List Al} {G:List aI} {i:Nat} {L:Nat->Bool} {β:Nat->Nat->Prop} {a:Act} {w:World} {o:Oper}{d:Nat} {x y z:Operand} {ty:TypeId} {pos:String} {au:Array Edge}
theorem Fx {T tx E:TypeId} {n m sz id s n0:Nat} {ag:Bool} {f:Nat->Pred} {H:List Bk} {hv:Value} {l l':List Value} (hk:V[n0]?=some (aP id s H)) (h1:Has [0] G 0 x (aJ hv)) (h2:Has [0] G 0 y (ax sz ag m f)) (hl0:l.length=n*sz) (hag:ag=false->sz=1) (Cf:∀i,i<m->Fits sz ag (f i)) (hnews:∀(w:World) (cs:List Value),cs.length=m*sz->(∀i,i<m->f i w (ah ag ((cs.drop (i*sz)).take sz)))->cs=l')
  (ou:(hv=.slice none 0 0/\n=0)\/∃b cap,hv=.slice (some ⟨b,0,none⟩) n cap/\n<=cap/\cap<=maxLen/\fB b l (cap*sz)∈H)
  (ht:nL P T tx E sz) (hmax:n+m<=1073741824) (hd':decide (d<c.N)=true)
  (hV:(V.all λy=>(y.slot != d)&&(y.born.isNone&&y.dead.isNone))=true) (hu:(V.filter λy=>y.id==id).length=1) (hG:(G.all λe=>e.slot != d)=true) (hpos:0<m) (h:Inv c V [] G none_ a w):
  aU P ops ⟨some d,.call ⟨.builtin .append,#[x,y],#[T,tx]⟩,ty,pos,au,none⟩ a w (λa w=>∃z:Nat×Nat,gN H hv (n+m) z/\Inv c (V.set n0 (aP id s (iq H z.1 (dQ (l++l') (z.2*sz))))) [] (⟨none,none,d,aJ (.slice (some ⟨z.1,0,none⟩) (n+m) z.2)⟩::G) none_ a w):=by
 obtain⟨β,hI⟩:=h
 obtain⟨hH,Ed,ob⟩:=hI.obj hk
 have tX:a.eval x=hv:=(h1.spec hI gW).out
 obtain⟨A2,nY,news,zK,E1,hc2,ij,ng,hnc,yE⟩:=gF hag Cf (h2.spec hI gW)
 have hN:=hnews w news ij λi hi=>(yE i hi).out
 subst hN
 obtain⟨E',Ae⟩:=ht.src
 obtain⟨ti,zv,hi,hsz,hz,hzs,Ah,hby⟩:=ht.info
 have hS:Src P ti.size tx (a.eval y) m news w:=by
  rw[zK,hsz]
  exact qB Ae ij (λu hu=>(ng u hu).2) λh=>by
   obtain⟨b,o,e,hc⟩:=hnc h
   exact⟨b,o,e,λj u hj=>(hc j u hj).1⟩
 have hlt:l.length+news.length=(n+m)*sz:=by rw[hl0,ij,Nat.add_mul]
 refine .of rfl ?_
 have close:∀(w':World) (blk cap':Nat) (cur':List Value) (T':TypeId),w'.heap[blk]?=some (.cells cur'.toArray T' (0,0))->cap'*sz<=cur'.length->n+m<=cap'->cap'<=maxLen->(∀u∈cur',dG u) ->
   cur'.take ((n+m)*sz)=l++news->((∃n c,hv=.slice (some ⟨blk,0,none⟩) n c)\/∀e,e∈H->e.b≠blk)->(w'.os=w.os/\w'.tape=w.tape/\w'.output=w.output/\w.heap.size<=w'.heap.size)->(∀k,k<w.heap.size->k≠blk->w'.heap[k]?=w.heap[k]?)->(β id blk\/w.heap.size<=blk) ->
   (Builtin.append_ #[T,tx] ty #[a.eval x,a.eval y]).run P w=.ok (.slice (some ⟨blk,0,none⟩) (n+m) cap') w'->Does P ⟨some d,.call ⟨.builtin .append,#[x,y],#[T,tx]⟩,ty,pos,au,none⟩ a w (λa w=>∃z:Nat×Nat,gN H hv (n+m) z/\Inv c (V.set n0 (aP id s (iq H z.1 (dQ (l++news) (z.2*sz))))) [] (⟨none,none,d,aJ (.slice (some ⟨z.1,0,none⟩) (n+m) z.2)⟩::G) none_ a w):=by
  intro w' blk cap' cur' T' fW mY hle hmx Aa Cp Af e0 hsame wY hrun
  refine dc hrun ⟨(blk,cap'),⟨hle,hmx,Af⟩,?_⟩
  have hle':di (β id) w w':=⟨e0.1,e0.2.1,e0.2.2.1,e0.2.2.2,λk hk hn=>hsame k hk λe=>wY.elim (λh=>hn (e▸h)) λh=>by omega⟩
  have e3:Ext (own c V none_ β) w w':=Ext.iP hle' λk j _ hk'=>ob k j hk'
  have hbk:(fB blk (l++news) (cap'*sz)).ok w':=by
   refine⟨cur',T',fW,?_,Aa,λq it hq=>?_⟩
   ·show(dQ (l++news) (cap'*sz)).length*1<=cur'.length
    rw[fA,List.length_append,hlt,Nat.mul_one]
    have:=Nat.mul_le_mul_right sz hle
    omega
   ·have hq:(dQ (l++news) (cap'*sz))[q]?=some it:=hq
    rcases Nat.lt_or_ge q (l++news).length with oz|oz
    ·rw[eN oz]at hq
     injection hq with hq
     subst hq
     show ah false ((cur'.drop (q*1)).take 1)=(l++news)[q]
     have uB:=oz
     rw[List.length_append,hlt]at uB
     have e1:cur'[q]?=some ((l++news)[q]):=by
      have e2:(cur'.take ((n+m)*sz))[q]?=(l++news)[q]?:=by rw[Cp]
      rw[List.getElem?_take,if_pos uB]at e2
      rw[e2,List.getElem?_eq_getElem oz]
     rw[Nat.mul_one]
     obtain⟨hqc,e2⟩:=List.getElem?_eq_some_iff.1 e1
     rw[List.drop_eq_getElem_cons hqc,e2]
     rfl
    ·rw[po oz hq]
     trivial
  exact hI.nr hk hle' (B':=λk=>β id k\/k=blk) (λk hk=>hk.elim .inl λe=>e▸wY) (hH.BK (aL hI) e3 hsame hbk) (of_decide_eq_true hd') hV hu hG
 have fresh:∀(bs:Option Addr) (sc:Nat),(∀u∈l,dG u)->hv=.slice bs n sc->sc<n+m->(Builtin.firstCells ti.size n (.slice bs n sc)).run P w.drew=.ok l.toArray w.drew ->
   Does P ⟨some d,.call ⟨.builtin .append,#[x,y],#[T,tx]⟩,ty,pos,au,none⟩ a w (λa w=>∃z:Nat×Nat,gN H hv (n+m) z/\Inv c (V.set n0 (aP id s (iq H z.1 (dQ (l++news) (z.2*sz))))) [] (⟨none,none,d,aJ (.slice (some ⟨z.1,0,none⟩) (n+m) z.2)⟩::G) none_ a w):=by
  intro bs sc Ab e hlt hold
  have hrun:=run_append_grow_src (P:=P) w T tx ty E ti zv ht.under hi hz bs n sc l hold (a.eval y) m news hS hlt (by omega) (growslice_fits hlt (by
   have:(n+m)*ti.bytes<=1073741824*4096:=Nat.mul_le_mul hmax hby
   omega))
  have hge:=grownCap_ge w (n+m) sc E
  have nh:∀q,(Builtin.zeroCells zv.cells q).toList.length=q*sz:=λq=>by rw[Array.length_toList,size_zeroCells,hzs]
  have hb0:Below w.heap.size w (w.drew.alloc (.cells (l++news++(Builtin.zeroCells zv.cells (grownCap w (n+m) sc E-(n+m))).toList).toArray E)):=Below.alloc (Below.drew (Below.refl _ _)) (Nat.le_refl _) _
  refine close (w.drew.alloc (.cells (l++news++(Builtin.zeroCells zv.cells (grownCap w (n+m) sc E-(n+m))).toList).toArray E)) w.heap.size (grownCap w (n+m) sc E) _ E (heap_alloc_new w.drew _) ?_ hge (grownCap_le_maxLen w (n+m) sc E (by unfold maxLen; omega)) ?_ ?_ (.inr λe he=>Nat.ne_of_lt (Bk.gT (hH.2.2 e he))) ⟨hb0.os,hb0.tape,hb0.output,hb0.size⟩ (λk hk _=>hb0.block k hk) (.inr (Nat.le_refl _)) ?_
  ·rw[List.length_append,List.length_append,hl0,ij,nh,<-Nat.add_mul,<-Nat.add_mul]
   exact Nat.mul_le_mul_right _ (by omega)
  ·intro u hu
   rcases List.mem_append.1 hu with hu|hu
   ·rcases List.mem_append.1 hu with hu|hu
    ·exact Ab u hu
    ·exact(ng u hu).1
   ·exact dS Ah _ u hu
  ·rw[<-show(l++news).length=(n+m)*sz by rw[List.length_append,hl0,ij,Nat.add_mul],List.take_left]
  ·rw[tX,e,hrun]
   congr 3
   apply Array.ext'
   simp
 rcases ou with⟨e,e2⟩|⟨b,cap,e,hrc,Ej,hme⟩
 ·subst e2
  have hl':l=[]:=List.eq_nil_of_length_eq_zero (by rw[hl0,Nat.zero_mul])
  subst hl'
  exact fresh none 0 (λu hu=>by cases hu) e (by omega) (run_firstCells_none w.drew ti.size 0 0 0)
 ·obtain⟨cs,T',g1,g2,g3,g4⟩:=hH.2.2 _ hme
  have g1:w.heap[b]?=some (.cells cs.toArray T' (0,0)):=g1
  have g2:(dQ l (cap*sz)).length*1<=cs.length:=g2
  have zZ:n*sz<=cap*sz:=Nat.mul_le_mul_right _ hrc
  rw[fA,Nat.mul_one,hl0,Nat.max_eq_right zZ]at g2
  have F6:n*sz<=cs.length:=by omega
  have Ad:cs.take (n*sz)=l:=by
   apply List.ext_getElem?
   intro q
   rw[List.getElem?_take]
   split
   ·rename_i hq
    have wS:q<l.length:=by omega
    have h5:=g4 q _ (eN wS)
    have h5:ah false ((cs.drop (q*1)).take 1)=l[q]:=h5
    have hqc:q<cs.length:=by omega
    rw[Nat.mul_one,List.drop_eq_getElem_cons hqc]at h5
    rw[List.getElem?_eq_getElem hqc,List.getElem?_eq_getElem wS]
    exact congrArg some h5
   ·rw[List.getElem?_eq_none (by omega)]
  have Dd:β id b:=(hH.1 _).2 ⟨_,hme,rfl⟩
  by_cases hroom:n+m<=cap
  ·have Ek:(n+m)*sz<=cap*sz:=Nat.mul_le_mul_right _ hroom
   rw[Nat.add_mul]at Ek
   have hsome:∀j,j<news.length->(w.cell? ⟨b,0+n*ti.size+j,none⟩).isSome=true:=by
    intro j hj
    simp only[World.cell?,g1]
    rw[List.getElem?_toArray,List.getElem?_eq_getElem (by rw[hsz]; omega)]
    rfl
   have hfz:∀j,j<news.length->w.frozen? ⟨b,0+n*ti.size+j,none⟩=false:=by
    intro j hj
    simp[World.frozen?,g1]
   have hrun:=run_append_room_src (P:=P) w T tx ty E ti ht.under hi b 0 n cap (a.eval y) m news hS hroom hsome hfz
   have dM:w.setCells b (0+n*ti.size) news=w.setRow b (cs.take (n*sz)++news++cs.drop (n*sz+news.length)).toArray:=by
    have r1:=run_storeCells_cells (P:=P) b (0+n*ti.size) news 0 w (by simpa using hsome) (by simpa using hfz) λu hu=>(ng u hu).2
    have r2:=run_storeCells_at P b (0+n*ti.size) T' news 0 cs.toArray w g1 (by simp[hsz]; omega) λu hu=>(ng u hu).2
    rw[r1]at r2
    injection r2 with _ r2
    simpa [hsz] using r2
   rw[dM]at hrun
   refine close _ b cap (cs.take (n*sz)++news++cs.drop (n*sz+news.length)) T' (setRow_heap w _ _ _ _ _ g1) ?_ hroom Ej ?_ ?_ (.inl ⟨_,_,e⟩) ⟨rfl,rfl,rfl,Nat.le_of_eq size_setRow.symm⟩ (λk _ hne=>ak hne) (.inl Dd) ?_
   ·simp only[List.length_append,List.length_take,List.length_drop,ij]; omega
   ·intro u hu
    simp only[List.mem_append]at hu
    rcases hu with(hu|hu)|hu
    ·exact g3 u (List.mem_of_mem_take hu)
    ·exact(ng u hu).1
    ·exact g3 u (List.mem_of_mem_drop hu)
   ·rw[Ad,<-show(l++news).length=(n+m)*sz by rw[List.length_append,hl0,ij,Nat.add_mul],List.take_left]
   ·rw[tX,e]
    exact hrun
  ·refine fresh (some ⟨b,0,none⟩) cap (λu hu=>g3 u (List.mem_of_mem_take (Ad▸hu))) e (by omega) ?_
   rw[hsz]
   refine run_firstCells_some w.drew sz n ⟨b,0,none⟩ n cap l hl0 λj u hj=>?_
   rw[Addr.add_mid]
   show w.cell? ⟨b,0+j,none⟩=some u
   rw[Nat.zero_add]
   simp only[World.cell?,g1]
   rw[<-Ad,List.getElem?_take]at hj
   split at hj
   ·simpa using hj
   ·cases hj
end
end Wx

namespace Wx
set_option maxRecDepth 100000
set_option maxHeartbeats 1000000
open Go Go.RowKit Go.Proofs
set_option linter.unusedVariables false
attribute [local irreducible] OpOk
abbrev fZ:Type:=ByteArray×Int×Bool
def gY (x:fZ):Pred:=pS [⟨false,1,pT x.1⟩,⟨false,1,pI x.2.1⟩,⟨false,1,pB x.2.2⟩]
theorem iB (x:fZ):Fits 3 true (gY x):=mU (fs:=[⟨false,1,pT x.1⟩,⟨false,1,pI x.2.1⟩,⟨false,1,pB x.2.2⟩]) ⟨aW _,fits_int _,fits_bool _,trivial⟩ rfl
variable {s:ByteArray}
theorem Aq {x:fZ} (_:True):K2 Tryz.prog 79 (gY x) (cZ 1 false (pT s)) (pB (decide (x.1=s))):=by
 intro M w0 v0 v1 hM hv0 dH
 refine iY (N:=8) Tryz.func79 rfl rfl rfl hM hv0 dH λa hI=>?_
 refine aq hI 2 [Uc 0 2 _,Uc 1 3 _] (.kk .z) ⟨EO 3 true (hf:=iB x),mv,trivial⟩ (.tV .z) λa w hI=>?_
 refine aq hI 5 [Uc 0 4 _,Uc 1 5 _,Uc 2 6 _,Uc 3 7 _,Uc 4 3 _] (.kk (.t 4 .z)) ⟨fP (fs:=[⟨false,1,pT x.1⟩,⟨false,1,pI x.2.1⟩,⟨false,1,pB x.2.2⟩]) 0 1 false,aE hs (pt rfl) (by kernel_rfl) (aW _),aE hs (pt rfl) (by kernel_rfl) (aW _),bU,mv,trivial⟩ (.bR (.cx .z)) λa w hI=>?_
 refine ay ?_
 exact cn hI rfl cU
def sI (φ:Nat->Bool):Nat->Nat->Int
 |0,_ => -1
 |f+1,k=>if φ k=true then(k:Int)else sI φ f (k+1)
def Ai (φ:Nat->Bool) (n:Nat):Int:=sI φ n 0
variable {φ:Nat->Bool} {i:Nat}
theorem wZ (hi:φ i=true) (h:∀q,q<i->φ q=false):∀f k,k<=i->i<k+f->sI φ f k=i:=by
 intro f
 induction f with
 |zero=>intro k h1 h2; omega
 |succ f ih=>
  intro k h1 h2
  unfold sI
  by_cases e:k=i
  ·rw[e,if_pos hi]
  ·rw[if_neg (by rw[h k (by omega)]; exact Bool.false_ne_true)]
   exact ih _ (by omega) (by omega)
theorem xb:∀f k,(∀q,k<=q->q<k+f->φ q=false)->sI φ f k = -1:=by
 intro f
 induction f with
 |zero=>intro k _; rfl
 |succ f ih=>
  intro k h
  unfold sI
  rw[if_neg (by rw[h k (Nat.le_refl _) (by omega)]; exact Bool.false_ne_true)]
  exact ih _ λq h1 h2=>h q (by omega) (by omega)
variable {n:Nat}
theorem xd (hi:φ i=true) (h:∀q,q<i->φ q=false) (hn:i<n):Ai φ n=i:=wZ hi h _ _ (Nat.zero_le _) (by omega)
theorem xe (h:∀q,q<n->φ q=false):Ai φ n = -1:=xb _ _ λq _ h2=>h q (by omega)
def gV (B:Nat->fZ) (n:Nat) (s:ByteArray):Int:=Ai (λk=>decide ((B k).1=s)) n
theorem ni {B:Nat->fZ} (h:n<=1000000):K2 Tryz.prog 78 (ax 3 true n λk=>gY (B k)) (vv 79 1 false (pT s)) (pI (gV B n s)):=by
 intro M w0 v0 v1 hM hv0 dH
 refine iY (N:=19) Tryz.func78 rfl rfl rfl hM hv0 dH λa hI=>?_
 refine aq hI 1 [Uc 0 4 _] (.kk .z) ⟨mv,trivial⟩ (.aR .z) λa w hI=>?_
 refine ai ?_
 refine aq hI 3 [Uc 0 6 _,Uc 1 7 _,Uc 2 8 _] (.aR .z) ⟨mv,ln,mv,trivial⟩ (.bC (.kk .z)) λa w hI=>?_
 refine aN ?_
 refine tA [] [Uz 0 _,Uz 1 _,Uz 7 _] (λ(i:Nat)=>[]) (λ(i:Nat)=>[Uz 8 (pI (i:Int))]) (λ(i:Nat)=>i<=n/\∀q,q<i->decide ((B q).1=s)=false) (λ(i:Nat)=>n-i) (0) ⟨Nat.zero_le _,λ_ h=>absurd h (Nat.not_lt_zero _)⟩ hI trivial ⟨gi,gi,gi,gc,trivial⟩ ?_
 intro i a w hi hI
 refine aq hI 1 [Uc 0 9 _] (.ae .z) ⟨bn,trivial⟩ (.ae (.k .z)) λa w hI=>?_
 refine ai ?_
 refine jF hI (λt1=>?_) (λt1=>?_)
 ·
  refine av ?_
  refine af ?_
  refine ai ?_
  refine aN ?_
  refine aq hI 2 [Uc 0 10 _,Uc 1 5 _] (.ae (.k .z)) ⟨mv,mv,trivial⟩ (.ae (.fJ .z)) λa w hI=>?_
  refine aq hI 6 [Uc 0 11 _,Uc 1 12 _,Uc 2 13 _,Uc 3 14 _,Uc 4 15 _,Uc 5 16 _] (.ae (.k .z)) ⟨mv,mv,mv,ix,aE hs (pt rfl) (by kernel_rfl) (iB _),FD (λ_ _=>by kernel_rfl) (Aq trivial),trivial⟩ (.ae (.fg (.fJ .z))) λa w hI=>?_
  refine xY hI (λt2=>?_) (λt2=>?_)
  ·
   refine aq hI 2 [Uc 0 17 _,Uc 1 4 _] (.ae (.kk .z)) ⟨mv,mv,trivial⟩ (.ae (.cx .z)) λa w hI=>?_
   refine ay ?_
   refine bp ?_
   refine aB ?_
   refine aB ?_
   refine bp ?_
   refine aB ?_
   exact cn hI rfl (cU (hq:=bV (xd t2 hi.2 (by omega)).symm))
  ·
   refine av ?_
   refine bG ?_
   refine af ?_
   refine kZ hI 2 [Uc 0 18 _,Uc 1 8 _] (.aR (.t 1 (.kk .z))) ⟨bn,mv,trivial⟩ (.bC (.cx .z)) λa w hI=>?_
   refine af ?_
   exact ry (i+1) ⟨by omega,λq hq=>if e:q=i then by rw[e]; exact t2 else hi.2 q (by omega)⟩ hI trivial ⟨gc,gc,gc,gc,trivial⟩ (by omega)
 ·
  refine cV ?_
  refine aM ?_
  refine aM ?_
  refine bF ?_
  refine af ?_
  refine aq hI 1 [Uc 0 4 _] (.ae (.k .z)) ⟨mv,trivial⟩ (.bR (.dk .z)) λa w hI=>?_
  refine ay ?_
  exact cn hI rfl (cU (hq:=bV (xe λq hq=>hi.2 q (by omega)).symm))
end Wx
