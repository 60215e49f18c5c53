import Derived.Test.YtfnmkhlleanppaaGreatDoorJWC29
namespace Wx
open Go Go.RowKit
def eI (l:List Value) (p:Nat):List It:=l.map Bn++List.replicate (p-l.length) C2
variable {l:List Value} {p k:Nat}
theorem fQ (h:k<l.length):(eI l p)[k]?=some (Bn l[k]):=by
 unfold eI
 rw[List.getElem?_append_left (by rw[List.length_map]; exact h),List.getElem?_map,List.getElem?_eq_getElem h]
 rfl
theorem gI (l:List Value) (p:Nat):(eI l p).length=max l.length p:=by
 unfold eI
 rw[List.length_append,List.length_map,List.length_replicate]
 omega
theorem zJ {v:Value} (h:k<l.length):(eI l p).set k (Bn v)=eI (l.set k v) p:=by
 unfold eI
 rw[List.set_append_left _ _ (by rw[List.length_map]; exact h),List.map_set,List.length_set]
theorem sx {i:Nat} {it:It} (h:l.length<=i) (hi:(eI l p)[i]?=some it):it=C2:=by
 unfold eI at hi
 rw[List.getElem?_append_right (by rw[List.length_map]; exact h)]at hi
 exact List.eq_of_mem_replicate (List.mem_of_getElem? hi)
abbrev fB (b:Nat) (l:List Value) (p:Nat):Bk:=⟨b,1,false,eI l p⟩
def jA (H:List Bk) (b:Nat) (items:List It):List Bk:=⟨b,1,false,items⟩::H.filter λe=>e.b != b
variable {H:List Bk} {b:Nat} {items:List It}
theorem jC:(⟨b,1,false,items⟩:Bk)∈jA H b items:=List.mem_cons_self ..
theorem gP {e:Bk} (he:e∈H) (hb:e.b≠b):e∈jA H b items:=List.mem_cons_of_mem _ (List.mem_filter.2 ⟨he,by simpa using hb⟩)
def iX (H:List Bk) (hv:Value) (N:Nat) (x:Nat×Nat):Prop:=N<=x.2/\x.2<=maxLen/\((∃n c,hv=.slice (some ⟨x.1,0,none⟩) n c)\/∀e,e∈H->e.b≠x.1)
def zw (H:List Bk) (hv:Value) (N sz:Nat) (l:List Value):Rel:=λB w v=>∃x:Nat×Nat,iX H hv N x/\v=.slice (some ⟨x.1,0,none⟩) N x.2/\cn B w (jA H x.1 (eI l (x.2*sz)))
theorem cn.Gg {B:Nat->Prop} {M:Nat->Nat->Prop} {w w':World} (h:cn B w H) (hM:cS M w) (he:Ext M w w') (hb:∀k,k<w.heap.size->k≠b->w'.heap[k]?=w.heap[k]?) (hn:(⟨b,1,false,items⟩:Bk).ok w'):cn (λk=>B k\/k=b) w' (jA H b items):=by
 obtain⟨h1,h2,h3⟩:=h
 refine⟨λk=>⟨?_,?_⟩,List.pairwise_cons.2 ⟨λe hm=>?_,h2.filter _⟩,λe hm=>?_⟩
 ·rintro(hk|rfl)
  ·obtain⟨e,hm,rfl⟩:=(h1 k).1 hk
   by_cases hb':e.b=b
   ·exact⟨_,jC,hb'.symm⟩
   ·exact⟨e,gP hm hb',rfl⟩
  ·exact⟨_,jC,rfl⟩
 ·rintro⟨e,hm,rfl⟩
  rcases List.mem_cons.1 hm with rfl|hm
  ·exact .inr rfl
  ·exact .inl ((h1 _).2 ⟨e,(List.mem_filter.1 hm).1,rfl⟩)
 ·have:=(List.mem_filter.1 hm).2
  exactλe'=>by rw[<-e']at this; simp at this
 ·rcases List.mem_cons.1 hm with rfl|hm
  ·exact hn
  ·have hm':=List.mem_filter.1 hm
   exact Bk.qj (h3 e hm'.1) hM he (hb _ (Bk.je (h3 e hm'.1)) (by simpa using hm'.2))
section
variable {P:Program} {ops:Array Oper} {ms:List Nat} {c:bQ} {V:List Vr} {A:List Al} {G:List aN} {i:Nat} {L:Nat->Bool} {β:Nat->Nat->Prop} {a:Act} {w:World} {o:Oper}{d:Nat} {x y z:Operand} {ty:TypeId} {pos:String} {aft:Array Edge}
theorem LL {T tx E:TypeId} {n m sz id s n0:Nat} {ag:Bool} {f:Nat->Pred} {H:List Bk} {hv:Value} {l l':List Value} (hk:V[n0]?=some (aZ id s H)) (h1:Has [0] G 0 x (aG hv)) (h2:Has [0] G 0 y (aI sz ag m f)) (hl0:l.length=n*sz) (hag:ag=false->sz=1) (GX:∀i,i<m->Fits sz ag (f i)) (hnews:∀(w:World) (cs:List Value),cs.length=m*sz->(∀i,i<m->f i w (aq ag ((cs.drop (i*sz)).take sz)))->cs=l')
  (rj:(hv=.slice none 0 0/\n=0)\/∃b cap,hv=.slice (some ⟨b,0,none⟩) n cap/\n<=cap/\cap<=maxLen/\fB b l (cap*sz)∈H)
  (ht:lf P T tx E sz) (hmax:n+m<=1073741824) (hd':decide (d<c.N)=true)
  (hV:(V.all λy=>(y.slot != d)&&(y.born.isNone&&y.dead.isNone))=true) (hu:(V.filter λy=>y.id==id).length=1) (hG:(G.all λe=>e.slot != d)=true) (hpos:0<m) (h:Inv c V [] G none_ a w):
  aW P ops ⟨some d,.call ⟨.builtin .append,#[x,y],#[T,tx]⟩,ty,pos,aft,none⟩ a w (λa w=>∃z:Nat×Nat,iX H hv (n+m) z/\Inv c (V.set n0 (aZ id s (jA H z.1 (eI (l++l') (z.2*sz))))) [] (⟨none,none,d,aG (.slice (some ⟨z.1,0,none⟩) (n+m) z.2)⟩::G) none_ a w):=by
 obtain⟨β,hI⟩:=h
 obtain⟨hH,J3,ob⟩:=hI.obj hk
 have CI:a.eval x=hv:=(h1.spec hI gl).out
 obtain⟨A2,sQ,news,DX,JY,hc2,jh,kF,hnc,rA⟩:=iO hag GX (h2.spec hI gl)
 have hN:=hnews w news jh λi hi=>(rA i hi).out
 subst hN
 obtain⟨E',Ep⟩:=ht.src
 obtain⟨ti,zv,hi,hsz,hz,hzs,Ew,hby⟩:=ht.info
 have hS:Src P ti.size tx (a.eval y) m news w:=by
  rw[DX,hsz]
  exact qv Ep jh (λu hu=>(kF u hu).2) λh=>by
   obtain⟨b,o,e,hc⟩:=hnc h
   exact⟨b,o,e,λj u hj=>(hc j u hj).1⟩
 have hlt:l.length+news.length=(n+m)*sz:=by rw[hl0,jh,Nat.add_mul]
 refine .of rfl ?_
 have close:∀(w':World) (blk cap':Nat) (cur':List Value) (T':TypeId),w'.heap[blk]?=some (.cells cur'.toArray T' (0,0))->cap'*sz<=cur'.length->n+m<=cap'->cap'<=maxLen->(∀u∈cur',dB u) ->
   cur'.take ((n+m)*sz)=l++news->((∃n c,hv=.slice (some ⟨blk,0,none⟩) n c)\/∀e,e∈H->e.b≠blk)->(w'.os=w.os/\w'.tape=w.tape/\w'.output=w.output/\w.heap.size<=w'.heap.size)->(∀k,k<w.heap.size->k≠blk->w'.heap[k]?=w.heap[k]?)->(β id blk\/w.heap.size<=blk) ->
   (Builtin.append_ #[T,tx] ty #[a.eval x,a.eval y]).run P w=.ok (.slice (some ⟨blk,0,none⟩) (n+m) cap') w'->Does P ⟨some d,.call ⟨.builtin .append,#[x,y],#[T,tx]⟩,ty,pos,aft,none⟩ a w (λa w=>∃z:Nat×Nat,iX H hv (n+m) z/\Inv c (V.set n0 (aZ id s (jA H z.1 (eI (l++news) (z.2*sz))))) [] (⟨none,none,d,aG (.slice (some ⟨z.1,0,none⟩) (n+m) z.2)⟩::G) none_ a w):=by
  intro w' blk cap' cur' T' dV lp hle hmx Ek Hp Er e0 hsame Bf hrun
  refine di hrun ⟨(blk,cap'),⟨hle,hmx,Er⟩,?_⟩
  have hle':bX (β id) w w':=⟨e0.1,e0.2.1,e0.2.2.1,e0.2.2.2,λk hk hn=>hsame k hk λe=>Bf.elim (λh=>hn (e▸h)) λh=>by omega⟩
  have e3:Ext (own c V none_ β) w w':=Ext.ke hle' λk j _ hk'=>ob k j hk'
  have hbk:(fB blk (l++news) (cap'*sz)).ok w':=by
   refine⟨cur',T',dV,?_,Ek,λq it hq=>?_⟩
   ·show(eI (l++news) (cap'*sz)).length*1<=cur'.length
    rw[gI,List.length_append,hlt,Nat.mul_one]
    have:=Nat.mul_le_mul_right sz hle
    omega
   ·have hq:(eI (l++news) (cap'*sz))[q]?=some it:=hq
    rcases Nat.lt_or_ge q (l++news).length with rC|rC
    ·rw[fQ rC]at hq
     injection hq with hq
     subst hq
     show aq false ((cur'.drop (q*1)).take 1)=(l++news)[q]
     have yh:=rC
     rw[List.length_append,hlt]at yh
     have e1:cur'[q]?=some ((l++news)[q]):=by
      have e2:(cur'.take ((n+m)*sz))[q]?=(l++news)[q]?:=by rw[Hp]
      rw[List.getElem?_take,if_pos yh]at e2
      rw[e2,List.getElem?_eq_getElem rC]
     rw[Nat.mul_one]
     obtain⟨hqc,e2⟩:=List.getElem?_eq_some_iff.1 e1
     rw[List.drop_eq_getElem_cons hqc,e2]
     rfl
    ·rw[sx rC hq]
     trivial
  exact hI.pY hk hle' (B':=λk=>β id k\/k=blk) (λk hk=>hk.elim .inl λe=>e▸Bf) (hH.Gg (aF hI) e3 hsame hbk) (of_decide_eq_true hd') hV hu hG
 have fresh:∀(bs:Option Addr) (sc:Nat),(∀u∈l,dB u)->hv=.slice bs n sc->sc<n+m->(Builtin.firstCells ti.size n (.slice bs n sc)).run P w.drew=.ok l.toArray w.drew ->
   Does P ⟨some d,.call ⟨.builtin .append,#[x,y],#[T,tx]⟩,ty,pos,aft,none⟩ a w (λa w=>∃z:Nat×Nat,iX H hv (n+m) z/\Inv c (V.set n0 (aZ id s (jA H z.1 (eI (l++news) (z.2*sz))))) [] (⟨none,none,d,aG (.slice (some ⟨z.1,0,none⟩) (n+m) z.2)⟩::G) none_ a w):=by
  intro bs sc Em e hlt hold
  have hrun:=run_append_grow_src (P:=P) w T tx ty E ti zv ht.under hi hz bs n sc l hold (a.eval y) m news hS hlt (by omega) (growslice_fits hlt (by
   have:(n+m)*ti.bytes<=1073741824*4096:=Nat.mul_le_mul hmax hby
   omega))
  have hge:=grownCap_ge w (n+m) sc E
  have pL:∀q,(Builtin.zeroCells zv.cells q).toList.length=q*sz:=λq=>by rw[Array.length_toList,size_zeroCells,hzs]
  have hb0:Below w.heap.size w (w.drew.alloc (.cells (l++news++(Builtin.zeroCells zv.cells (grownCap w (n+m) sc E-(n+m))).toList).toArray E)):=Below.alloc (Below.drew (Below.refl _ _)) (Nat.le_refl _) _
  refine close (w.drew.alloc (.cells (l++news++(Builtin.zeroCells zv.cells (grownCap w (n+m) sc E-(n+m))).toList).toArray E)) w.heap.size (grownCap w (n+m) sc E) _ E (heap_alloc_new w.drew _) ?_ hge (grownCap_le_maxLen w (n+m) sc E (by unfold maxLen; omega)) ?_ ?_ (.inr λe he=>Nat.ne_of_lt (Bk.je (hH.2.2 e he))) ⟨hb0.os,hb0.tape,hb0.output,hb0.size⟩ (λk hk _=>hb0.block k hk) (.inr (Nat.le_refl _)) ?_
  ·rw[List.length_append,List.length_append,hl0,jh,pL,<-Nat.add_mul,<-Nat.add_mul]
   exact Nat.mul_le_mul_right _ (by omega)
  ·intro u hu
   rcases List.mem_append.1 hu with hu|hu
   ·rcases List.mem_append.1 hu with hu|hu
    ·exact Em u hu
    ·exact(kF u hu).1
   ·exact eK Ew _ u hu
  ·rw[<-show(l++news).length=(n+m)*sz by rw[List.length_append,hl0,jh,Nat.add_mul],List.take_left]
  ·rw[CI,e,hrun]
   congr 3
   apply Array.ext'
   simp
 rcases rj with⟨e,e2⟩|⟨b,cap,e,hrc,Kb,hme⟩
 ·subst e2
  have hl':l=[]:=List.eq_nil_of_length_eq_zero (by rw[hl0,Nat.zero_mul])
  subst hl'
  exact fresh none 0 (λu hu=>by cases hu) e (by omega) (run_firstCells_none w.drew ti.size 0 0 0)
 ·obtain⟨cs,T',g1,g2,g3,g4⟩:=hH.2.2 _ hme
  have g1:w.heap[b]?=some (.cells cs.toArray T' (0,0)):=g1
  have g2:(eI l (cap*sz)).length*1<=cs.length:=g2
  have Ej:n*sz<=cap*sz:=Nat.mul_le_mul_right _ hrc
  rw[gI,Nat.mul_one,hl0,Nat.max_eq_right Ej]at g2
  have Mt:n*sz<=cs.length:=by omega
  have yn:cs.take (n*sz)=l:=by
   apply List.ext_getElem?
   intro q
   rw[List.getElem?_take]
   split
   ·rename_i hq
    have vP:q<l.length:=by omega
    have h5:=g4 q _ (fQ vP)
    have h5:aq false ((cs.drop (q*1)).take 1)=l[q]:=h5
    have hqc:q<cs.length:=by omega
    rw[Nat.mul_one,List.drop_eq_getElem_cons hqc]at h5
    rw[List.getElem?_eq_getElem hqc,List.getElem?_eq_getElem vP]
    exact congrArg some h5
   ·rw[List.getElem?_eq_none (by omega)]
  have II:β id b:=(hH.1 _).2 ⟨_,hme,rfl⟩
  by_cases hroom:n+m<=cap
  ·have Kc:(n+m)*sz<=cap*sz:=Nat.mul_le_mul_right _ hroom
   rw[Nat.add_mul]at Kc
   have hsome:∀j,j<news.length->(w.cell? ⟨b,0+n*ti.size+j,none⟩).isSome=true:=by
    intro j hj
    simp only[World.cell?,g1]
    rw[List.getElem?_toArray,List.getElem?_eq_getElem (by rw[hsz]; omega)]
    rfl
   have hfz:∀j,j<news.length->w.frozen? ⟨b,0+n*ti.size+j,none⟩=false:=by
    intro j hj
    simp[World.frozen?,g1]
   have hrun:=run_append_room_src (P:=P) w T tx ty E ti ht.under hi b 0 n cap (a.eval y) m news hS hroom hsome hfz
   have dm:w.setCells b (0+n*ti.size) news=w.setRow b (cs.take (n*sz)++news++cs.drop (n*sz+news.length)).toArray:=by
    have r1:=run_storeCells_cells (P:=P) b (0+n*ti.size) news 0 w (by simpa using hsome) (by simpa using hfz) λu hu=>(kF u hu).2
    have r2:=run_storeCells_at P b (0+n*ti.size) T' news 0 cs.toArray w g1 (by simp[hsz]; omega) λu hu=>(kF u hu).2
    rw[r1]at r2
    injection r2 with _ r2
    simpa [hsz] using r2
   rw[dm]at hrun
   refine close _ b cap (cs.take (n*sz)++news++cs.drop (n*sz+news.length)) T' (setRow_heap w _ _ _ _ _ g1) ?_ hroom Kb ?_ ?_ (.inl ⟨_,_,e⟩) ⟨rfl,rfl,rfl,Nat.le_of_eq size_setRow.symm⟩ (λk _ hne=>ai hne) (.inl II) ?_
   ·simp only[List.length_append,List.length_take,List.length_drop,jh]; omega
   ·intro u hu
    simp only[List.mem_append]at hu
    rcases hu with(hu|hu)|hu
    ·exact g3 u (List.mem_of_mem_take hu)
    ·exact(kF u hu).1
    ·exact g3 u (List.mem_of_mem_drop hu)
   ·rw[yn,<-show(l++news).length=(n+m)*sz by rw[List.length_append,hl0,jh,Nat.add_mul],List.take_left]
   ·rw[CI,e]
    exact hrun
  ·refine fresh (some ⟨b,0,none⟩) cap (λu hu=>g3 u (List.mem_of_mem_take (yn▸hu))) e (by omega) ?_
   rw[hsz]
   refine run_firstCells_some w.drew sz n ⟨b,0,none⟩ n cap l hl0 λj u hj=>?_
   rw[Addr.add_mid]
   show w.cell? ⟨b,0+j,none⟩=some u
   rw[Nat.zero_add]
   simp only[World.cell?,g1]
   rw[<-yn,List.getElem?_take]at hj
   split at hj
   ·simpa using hj
   ·cases hj
end
end Wx

namespace Wx
set_option maxRecDepth 100000
set_option maxHeartbeats 1000000
open Go Go.RowKit Go.Proofs
set_option linter.unusedVariables false
attribute [local irreducible] OpOk
abbrev ig:Type:=ByteArray×Int×Bool
def jn (x:ig):Pred:=pS [⟨false,1,pT x.1⟩,⟨false,1,pI x.2.1⟩,⟨false,1,pB x.2.2⟩]
theorem jI (x:ig):Fits 3 true (jn x):=mB (fs:=[⟨false,1,pT x.1⟩,⟨false,1,pI x.2.1⟩,⟨false,1,pB x.2.2⟩]) ⟨aE _,fits_int _,fits_bool _,trivial⟩ rfl
variable {s:ByteArray}
theorem ED {x:ig} (_:True):K2 Tryz.prog 79 (jn x) (dM 1 false (pT s)) (pB (decide (x.1=s))):=by
 intro M w0 v0 v1 hM hv0 da
 refine fT (N:=8) Tryz.func79 rfl rfl rfl hM hv0 da λa hI=>?_
 refine au hI 2 [Uc 0 2 _,Uc 1 3 _] (.kk .z) ⟨KR 3 true (hf:=jI x),mv,trivial⟩ (.qV .z) λa w hI=>?_
 refine au hI 5 [Uc 0 4 _,Uc 1 5 _,Uc 2 6 _,Uc 3 7 _,Uc 4 3 _] (.kk (.t 4 .z)) ⟨fP (fs:=[⟨false,1,pT x.1⟩,⟨false,1,pI x.2.1⟩,⟨false,1,pB x.2.2⟩]) 0 1 false,ax hs (pt rfl) (by kernel_rfl) (aE _),ax hs (pt rfl) (by kernel_rfl) (aE _),bU,mv,trivial⟩ (.bp (.cf .z)) λa w hI=>?_
 refine av ?_
 exact bW hI rfl cm
def vS (φ:Nat->Bool):Nat->Nat->Int
 |0,_ => -1
 |f+1,k=>if φ k=true then(k:Int)else vS φ f (k+1)
def Ex (φ:Nat->Bool) (n:Nat):Int:=vS φ n 0
variable {φ:Nat->Bool} {i:Nat}
theorem Bg (hi:φ i=true) (h:∀q,q<i->φ q=false):∀f k,k<=i->i<k+f->vS φ f k=i:=by
 intro f
 induction f with
 |zero=>intro k h1 h2; omega
 |succ f ih=>
  intro k h1 h2
  unfold vS
  by_cases e:k=i
  ·rw[e,if_pos hi]
  ·rw[if_neg (by rw[h k (by omega)]; exact Bool.false_ne_true)]
   exact ih _ (by omega) (by omega)
theorem Bh:∀f k,(∀q,k<=q->q<k+f->φ q=false)->vS φ f k = -1:=by
 intro f
 induction f with
 |zero=>intro k _; rfl
 |succ f ih=>
  intro k h
  unfold vS
  rw[if_neg (by rw[h k (Nat.le_refl _) (by omega)]; exact Bool.false_ne_true)]
  exact ih _ λq h1 h2=>h q (by omega) (by omega)
variable {n:Nat}
theorem Bi (hi:φ i=true) (h:∀q,q<i->φ q=false) (hn:i<n):Ex φ n=i:=Bg hi h _ _ (Nat.zero_le _) (by omega)
theorem Bj (h:∀q,q<n->φ q=false):Ex φ n = -1:=Bh _ _ λq _ h2=>h q (by omega)
def jg (B:Nat->ig) (n:Nat) (s:ByteArray):Int:=Ex (λk=>decide ((B k).1=s)) n
theorem pU {B:Nat->ig} (h:n<=1000000):K2 Tryz.prog 78 (aI 3 true n λk=>jn (B k)) (zx 79 1 false (pT s)) (pI (jg B n s)):=by
 intro M w0 v0 v1 hM hv0 da
 refine fT (N:=19) Tryz.func78 rfl rfl rfl hM hv0 da λa hI=>?_
 refine au hI 1 [Uc 0 4 _] (.kk .z) ⟨mv,trivial⟩ (.aU .z) λa w hI=>?_
 refine ah ?_
 refine au hI 3 [Uc 0 6 _,Uc 1 7 _,Uc 2 8 _] (.aU .z) ⟨mv,ln,mv,trivial⟩ (.bj (.kk .z)) λa w hI=>?_
 refine aD ?_
 refine qz [] [Uz 0 _,Uz 1 _,Uz 7 _] (λ(i:Nat)=>[]) (λ(i:Nat)=>[Uz 8 (pI (i:Int))]) (λ(i:Nat)=>i<=n/\∀q,q<i->decide ((B q).1=s)=false) (λ(i:Nat)=>n-i) (0) ⟨Nat.zero_le _,λ_ h=>absurd h (Nat.not_lt_zero _)⟩ hI trivial ⟨gi,gi,gi,gc,trivial⟩ ?_
 intro i a w hi hI
 refine au hI 1 [Uc 0 9 _] (.af .z) ⟨bn,trivial⟩ (.af (.k .z)) λa w hI=>?_
 refine ah ?_
 refine jv hI (λt1=>?_) (λt1=>?_)
 ·
  refine ak ?_
  refine ae ?_
  refine ah ?_
  refine aD ?_
  refine au hI 2 [Uc 0 10 _,Uc 1 5 _] (.af (.k .z)) ⟨mv,mv,trivial⟩ (.af (.eC .z)) λa w hI=>?_
  refine au hI 6 [Uc 0 11 _,Uc 1 12 _,Uc 2 13 _,Uc 3 14 _,Uc 4 15 _,Uc 5 16 _] (.af (.k .z)) ⟨mv,mv,mv,ix,ax hs (pt rfl) (by kernel_rfl) (jI _),LP (λ_ _=>by kernel_rfl) (ED trivial),trivial⟩ (.af (.gE (.eC .z))) λa w hI=>?_
  refine nX hI (λt2=>?_) (λt2=>?_)
  ·
   refine au hI 2 [Uc 0 17 _,Uc 1 4 _] (.af (.kk .z)) ⟨mv,mv,trivial⟩ (.af (.cf .z)) λa w hI=>?_
   refine av ?_
   refine aS ?_
   refine aj ?_
   refine aj ?_
   refine aS ?_
   refine aj ?_
   exact bW hI rfl (cm (hq:=bh (Bi t2 hi.2 (by omega)).symm))
  ·
   refine ak ?_
   refine bk ?_
   refine ae ?_
   refine iP hI 2 [Uc 0 18 _,Uc 1 8 _] (.aU (.t 1 (.kk .z))) ⟨bn,mv,trivial⟩ (.bj (.cf .z)) λa w hI=>?_
   refine ae ?_
   exact nQ (i+1) ⟨by omega,λq hq=>if e:q=i then by rw[e]; exact t2 else hi.2 q (by omega)⟩ hI trivial ⟨gc,gc,gc,gc,trivial⟩ (by omega)
 ·
  refine cj ?_
  refine aC ?_
  refine aC ?_
  refine bf ?_
  refine ae ?_
  refine au hI 1 [Uc 0 4 _] (.af (.k .z)) ⟨mv,trivial⟩ (.bp (.dk .z)) λa w hI=>?_
  refine av ?_
  exact bW hI rfl (cm (hq:=bh (Bj λq hq=>hi.2 q (by omega)).symm))
end Wx
