import Derived.Test.YtfnmkhlleanppaaGreatDoorJWN26
namespace Wx
open Go Go.RowKit
def cX (l:List Value) (p:Nat):List It:=l.map uD++List.replicate (p-l.length) vR
variable {l:List Value} {p k:Nat}
theorem dJ (h:k<l.length):(cX l p)[k]?=some (uD l[k]):=by
 unfold cX
 rw[List.getElem?_append_left (by rw[List.length_map]; exact h),List.getElem?_map,List.getElem?_eq_getElem h]
 rfl
theorem er (l:List Value) (p:Nat):(cX l p).length=max l.length p:=by
 unfold cX
 rw[List.length_append,List.length_map,List.length_replicate]
 omega
theorem tu {v:Value} (h:k<l.length):(cX l p).set k (uD v)=cX (l.set k v) p:=by
 unfold cX
 rw[List.set_append_left _ _ (by rw[List.length_map]; exact h),List.map_set,List.length_set]
theorem nr {i:Nat} {it:It} (h:l.length<=i) (hi:(cX l p)[i]?=some it):it=vR:=by
 unfold cX at hi
 rw[List.getElem?_append_right (by rw[List.length_map]; exact h)]at hi
 exact List.eq_of_mem_replicate (List.mem_of_getElem? hi)
abbrev fB (b:Nat) (l:List Value) (p:Nat):Bk:=⟨b,1,false,cX l p⟩
def gq (H:List Bk) (b:Nat) (items:List It):List Bk:=⟨b,1,false,items⟩::H.filter λe=>e.b != b
variable {H:List Bk} {b:Nat} {items:List It}
theorem gr:(⟨b,1,false,items⟩:Bk)∈gq H b items:=List.mem_cons_self ..
theorem eB {e:Bk} (he:e∈H) (hb:e.b≠b):e∈gq H b items:=List.mem_cons_of_mem _ (List.mem_filter.2 ⟨he,by simpa using hb⟩)
def fD (H:List Bk) (hv:Value) (N:Nat) (x:Nat×Nat):Prop:=N<=x.2/\x.2<=maxLen/\((∃n c,hv=.slice (some ⟨x.1,0,none⟩) n c)\/∀e,e∈H->e.b≠x.1)
def sW (H:List Bk) (hv:Value) (N sz:Nat) (l:List Value):Rel:=λB w v=>∃x:Nat×Nat,fD H hv N x/\v=.slice (some ⟨x.1,0,none⟩) N x.2/\bE B w (gq H x.1 (cX l (x.2*sz)))
theorem bE.zh {B:Nat->Prop} {M:Nat->Nat->Prop} {w w':World} (h:bE B w H) (hM:cQ M w) (he:Ext M w w') (hb:∀k,k<w.heap.size->k≠b->w'.heap[k]?=w.heap[k]?) (hn:(⟨b,1,false,items⟩:Bk).ok w'):bE (λk=>B k\/k=b) w' (gq H b items):=by
 obtain⟨h1,h2,h3⟩:=h
 refine⟨λk=>⟨?_,?_⟩,List.pairwise_cons.2 ⟨λe hm=>?_,h2.filter _⟩,λe hm=>?_⟩
 ·rintro(hk|rfl)
  ·obtain⟨e,hm,rfl⟩:=(h1 k).1 hk
   by_cases hb':e.b=b
   ·exact⟨_,gr,hb'.symm⟩
   ·exact⟨e,eB hm hb',rfl⟩
  ·exact⟨_,gr,rfl⟩
 ·rintro⟨e,hm,rfl⟩
  rcases List.mem_cons.1 hm with rfl|hm
  ·exact .inr rfl
  ·exact .inl ((h1 _).2 ⟨e,(List.mem_filter.1 hm).1,rfl⟩)
 ·have:=(List.mem_filter.1 hm).2
  exactλe'=>by rw[<-e']at this; simp at this
 ·rcases List.mem_cons.1 hm with rfl|hm
  ·exact hn
  ·have hm':=List.mem_filter.1 hm
   exact Bk.lE (h3 e hm'.1) hM he (hb _ (Bk.fO (h3 e hm'.1)) (by simpa using hm'.2))
section
variable {P:Program} {ops:Array Oper} {ms:List Nat} {c:bD} {V:List Vr} {A:List Al} {G:List aD} {i:Nat} {L:Nat->Bool} {β:Nat->Nat->Prop} {a:Act} {w:World} {o:Oper}{d:Nat} {x y z:Operand} {ty:TypeId} {pos:String} {aj:Array Edge}
theorem De {T tx E:TypeId} {n m sz id s n0:Nat} {ag:Bool} {f:Nat->Pred} {H:List Bk} {hv:Value} {l l':List Value} (hk:V[n0]?=some (aM id s H)) (h1:Has [0] G 0 x (aE hv)) (h2:Has [0] G 0 y (aK sz ag m f)) (hl0:l.length=n*sz) (hag:ag=false->sz=1) (zK:∀i,i<m->Fits sz ag (f i)) (hnews:∀(w:World) (cs:List Value),cs.length=m*sz->(∀i,i<m->f i w (ae ag ((cs.drop (i*sz)).take sz)))->cs=l')
  (mz:(hv=.slice none 0 0/\n=0)\/∃b cap,hv=.slice (some ⟨b,0,none⟩) n cap/\n<=cap/\cap<=maxLen/\fB b l (cap*sz)∈H)
  (ht:oN P T tx E sz) (hmax:n+m<=1073741824) (hd':decide (d<c.N)=true)
  (hV:(V.all λy=>(y.slot != d)&&(y.born.isNone&&y.dead.isNone))=true) (hu:(V.filter λy=>y.id==id).length=1) (hG:(G.all λe=>e.slot != d)=true) (hpos:0<m) (h:Inv c V [] G none_ a w):
  aQ P ops ⟨some d,.call ⟨.builtin .append,#[x,y],#[T,tx]⟩,ty,pos,aj,none⟩ a w (λa w=>∃z:Nat×Nat,fD H hv (n+m) z/\Inv c (V.set n0 (aM id s (gq H z.1 (cX (l++l') (z.2*sz))))) [] (⟨none,none,d,aE (.slice (some ⟨z.1,0,none⟩) (n+m) z.2)⟩::G) none_ a w):=by
 obtain⟨β,hI⟩:=h
 obtain⟨hH,B2,ob⟩:=hI.obj hk
 have zw:a.eval x=hv:=(h1.spec hI fV).out
 obtain⟨A2,uc,news,BC,DO,hc2,nX,rR,hnc,B4⟩:=nu hag zK (h2.spec hI fV)
 have hN:=hnews w news nX λi hi=>(B4 i hi).out
 subst hN
 obtain⟨E',Cc⟩:=ht.src
 obtain⟨ti,zv,hi,hsz,hz,hzs,Cg,hby⟩:=ht.info
 have hS:Src P ti.size tx (a.eval y) m news w:=by
  rw[BC,hsz]
  exact tB Cc nX (λu hu=>(rR u hu).2) λh=>by
   obtain⟨b,o,e,hc⟩:=hnc h
   exact⟨b,o,e,λj u hj=>(hc j u hj).1⟩
 have hlt:l.length+news.length=(n+m)*sz:=by rw[hl0,nX,Nat.add_mul]
 refine .of rfl ?_
 have close:∀(w':World) (blk cap':Nat) (cur':List Value) (T':TypeId),w'.heap[blk]?=some (.cells cur'.toArray T' (0,0))->cap'*sz<=cur'.length->n+m<=cap'->cap'<=maxLen->(∀u∈cur',dc u) ->
   cur'.take ((n+m)*sz)=l++news->((∃n c,hv=.slice (some ⟨blk,0,none⟩) n c)\/∀e,e∈H->e.b≠blk)->(w'.os=w.os/\w'.tape=w.tape/\w'.output=w.output/\w.heap.size<=w'.heap.size)->(∀k,k<w.heap.size->k≠blk->w'.heap[k]?=w.heap[k]?)->(β id blk\/w.heap.size<=blk) ->
   (Builtin.append_ #[T,tx] ty #[a.eval x,a.eval y]).run P w=.ok (.slice (some ⟨blk,0,none⟩) (n+m) cap') w'->Does P ⟨some d,.call ⟨.builtin .append,#[x,y],#[T,tx]⟩,ty,pos,aj,none⟩ a w (λa w=>∃z:Nat×Nat,fD H hv (n+m) z/\Inv c (V.set n0 (aM id s (gq H z.1 (cX (l++news) (z.2*sz))))) [] (⟨none,none,d,aE (.slice (some ⟨z.1,0,none⟩) (n+m) z.2)⟩::G) none_ a w):=by
  intro w' blk cap' cur' T' xn qQ hle hmx xz Cb xF e0 hsame ux hrun
  refine iC hrun ⟨(blk,cap'),⟨hle,hmx,xF⟩,?_⟩
  have hle':cI (β id) w w':=⟨e0.1,e0.2.1,e0.2.2.1,e0.2.2.2,λk hk hn=>hsame k hk λe=>ux.elim (λh=>hn (e▸h)) λh=>by omega⟩
  have e3:Ext (own c V none_ β) w w':=Ext.gO hle' λk j _ hk'=>ob k j hk'
  have hbk:(fB blk (l++news) (cap'*sz)).ok w':=by
   refine⟨cur',T',xn,?_,xz,λq it hq=>?_⟩
   ·show(cX (l++news) (cap'*sz)).length*1<=cur'.length
    rw[er,List.length_append,hlt,Nat.mul_one]
    have:=Nat.mul_le_mul_right sz hle
    omega
   ·have hq:(cX (l++news) (cap'*sz))[q]?=some it:=hq
    rcases Nat.lt_or_ge q (l++news).length with mF|mF
    ·rw[dJ mF]at hq
     injection hq with hq
     subst hq
     show ae false ((cur'.drop (q*1)).take 1)=(l++news)[q]
     have rU:=mF
     rw[List.length_append,hlt]at rU
     have e1:cur'[q]?=some ((l++news)[q]):=by
      have e2:(cur'.take ((n+m)*sz))[q]?=(l++news)[q]?:=by rw[Cb]
      rw[List.getElem?_take,if_pos rU]at e2
      rw[e2,List.getElem?_eq_getElem mF]
     rw[Nat.mul_one]
     obtain⟨hqc,e2⟩:=List.getElem?_eq_some_iff.1 e1
     rw[List.drop_eq_getElem_cons hqc,e2]
     rfl
    ·rw[nr mF hq]
     trivial
  exact hI.lu hk hle' (B':=λk=>β id k\/k=blk) (λk hk=>hk.elim .inl λe=>e▸ux) (hH.zh (aF hI) e3 hsame hbk) (of_decide_eq_true hd') hV hu hG
 have fresh:∀(bs:Option Addr) (sc:Nat),(∀u∈l,dc u)->hv=.slice bs n sc->sc<n+m->(Builtin.firstCells ti.size n (.slice bs n sc)).run P w.drew=.ok l.toArray w.drew ->
   Does P ⟨some d,.call ⟨.builtin .append,#[x,y],#[T,tx]⟩,ty,pos,aj,none⟩ a w (λa w=>∃z:Nat×Nat,fD H hv (n+m) z/\Inv c (V.set n0 (aM id s (gq H z.1 (cX (l++news) (z.2*sz))))) [] (⟨none,none,d,aE (.slice (some ⟨z.1,0,none⟩) (n+m) z.2)⟩::G) none_ a w):=by
  intro bs sc B6 e hlt hold
  have hrun:=run_append_grow_src (P:=P) w T tx ty E ti zv ht.under hi hz bs n sc l hold (a.eval y) m news hS hlt (by omega) (growslice_fits hlt (by
   have:(n+m)*ti.bytes<=1073741824*4096:=Nat.mul_le_mul hmax hby
   omega))
  have hge:=grownCap_ge w (n+m) sc E
  have ld:∀q,(Builtin.zeroCells zv.cells q).toList.length=q*sz:=λq=>by rw[Array.length_toList,size_zeroCells,hzs]
  have hb0:Below w.heap.size w (w.drew.alloc (.cells (l++news++(Builtin.zeroCells zv.cells (grownCap w (n+m) sc E-(n+m))).toList).toArray E)):=Below.alloc (Below.drew (Below.refl _ _)) (Nat.le_refl _) _
  refine close (w.drew.alloc (.cells (l++news++(Builtin.zeroCells zv.cells (grownCap w (n+m) sc E-(n+m))).toList).toArray E)) w.heap.size (grownCap w (n+m) sc E) _ E (heap_alloc_new w.drew _) ?_ hge (grownCap_le_maxLen w (n+m) sc E (by unfold maxLen; omega)) ?_ ?_ (.inr λe he=>Nat.ne_of_lt (Bk.fO (hH.2.2 e he))) ⟨hb0.os,hb0.tape,hb0.output,hb0.size⟩ (λk hk _=>hb0.block k hk) (.inr (Nat.le_refl _)) ?_
  ·rw[List.length_append,List.length_append,hl0,nX,ld,<-Nat.add_mul,<-Nat.add_mul]
   exact Nat.mul_le_mul_right _ (by omega)
  ·intro u hu
   rcases List.mem_append.1 hu with hu|hu
   ·rcases List.mem_append.1 hu with hu|hu
    ·exact B6 u hu
    ·exact(rR u hu).1
   ·exact fN Cg _ u hu
  ·rw[<-show(l++news).length=(n+m)*sz by rw[List.length_append,hl0,nX,Nat.add_mul],List.take_left]
  ·rw[zw,e,hrun]
   congr 3
   apply Array.ext'
   simp
 rcases mz with⟨e,e2⟩|⟨b,cap,e,hrc,B9,hme⟩
 ·subst e2
  have hl':l=[]:=List.eq_nil_of_length_eq_zero (by rw[hl0,Nat.zero_mul])
  subst hl'
  exact fresh none 0 (λu hu=>by cases hu) e (by omega) (run_firstCells_none w.drew ti.size 0 0 0)
 ·obtain⟨cs,T',g1,g2,g3,g4⟩:=hH.2.2 _ hme
  have g1:w.heap[b]?=some (.cells cs.toArray T' (0,0)):=g1
  have g2:(cX l (cap*sz)).length*1<=cs.length:=g2
  have xy:n*sz<=cap*sz:=Nat.mul_le_mul_right _ hrc
  rw[er,Nat.mul_one,hl0,Nat.max_eq_right xy]at g2
  have DN:n*sz<=cs.length:=by omega
  have xC:cs.take (n*sz)=l:=by
   apply List.ext_getElem?
   intro q
   rw[List.getElem?_take]
   split
   ·rename_i hq
    have ur:q<l.length:=by omega
    have h5:=g4 q _ (dJ ur)
    have h5:ae false ((cs.drop (q*1)).take 1)=l[q]:=h5
    have hqc:q<cs.length:=by omega
    rw[Nat.mul_one,List.drop_eq_getElem_cons hqc]at h5
    rw[List.getElem?_eq_getElem hqc,List.getElem?_eq_getElem ur]
    exact congrArg some h5
   ·rw[List.getElem?_eq_none (by omega)]
  have A5:β id b:=(hH.1 _).2 ⟨_,hme,rfl⟩
  by_cases hroom:n+m<=cap
  ·have Ca:(n+m)*sz<=cap*sz:=Nat.mul_le_mul_right _ hroom
   rw[Nat.add_mul]at Ca
   have hsome:∀j,j<news.length->(w.cell? ⟨b,0+n*ti.size+j,none⟩).isSome=true:=by
    intro j hj
    simp only[World.cell?,g1]
    rw[List.getElem?_toArray,List.getElem?_eq_getElem (by rw[hsz]; omega)]
    rfl
   have hfz:∀j,j<news.length->w.frozen? ⟨b,0+n*ti.size+j,none⟩=false:=by
    intro j hj
    simp[World.frozen?,g1]
   have hrun:=run_append_room_src (P:=P) w T tx ty E ti ht.under hi b 0 n cap (a.eval y) m news hS hroom hsome hfz
   have dm:w.setCells b (0+n*ti.size) news=w.setRow b (cs.take (n*sz)++news++cs.drop (n*sz+news.length)).toArray:=by
    have r1:=run_storeCells_cells (P:=P) b (0+n*ti.size) news 0 w (by simpa using hsome) (by simpa using hfz) λu hu=>(rR u hu).2
    have r2:=run_storeCells_at P b (0+n*ti.size) T' news 0 cs.toArray w g1 (by simp[hsz]; omega) λu hu=>(rR u hu).2
    rw[r1]at r2
    injection r2 with _ r2
    simpa [hsz] using r2
   rw[dm]at hrun
   refine close _ b cap (cs.take (n*sz)++news++cs.drop (n*sz+news.length)) T' (setRow_heap w _ _ _ _ _ g1) ?_ hroom B9 ?_ ?_ (.inl ⟨_,_,e⟩) ⟨rfl,rfl,rfl,Nat.le_of_eq size_setRow.symm⟩ (λk _ hne=>ak hne) (.inl A5) ?_
   ·simp only[List.length_append,List.length_take,List.length_drop,nX]; omega
   ·intro u hu
    simp only[List.mem_append]at hu
    rcases hu with(hu|hu)|hu
    ·exact g3 u (List.mem_of_mem_take hu)
    ·exact(rR u hu).1
    ·exact g3 u (List.mem_of_mem_drop hu)
   ·rw[xC,<-show(l++news).length=(n+m)*sz by rw[List.length_append,hl0,nX,Nat.add_mul],List.take_left]
   ·rw[zw,e]
    exact hrun
  ·refine fresh (some ⟨b,0,none⟩) cap (λu hu=>g3 u (List.mem_of_mem_take (xC▸hu))) e (by omega) ?_
   rw[hsz]
   refine run_firstCells_some w.drew sz n ⟨b,0,none⟩ n cap l hl0 λj u hj=>?_
   rw[Addr.add_mid]
   show w.cell? ⟨b,0+j,none⟩=some u
   rw[Nat.zero_add]
   simp only[World.cell?,g1]
   rw[<-xC,List.getElem?_take]at hj
   split at hj
   ·simpa using hj
   ·cases hj
end
end Wx
