import Derived.Test.YtfnmkhlleanppaaGreatDoorJWB35
namespace Wx
open Go Go.RowKit
section
variable {P:Program} {ops:Array Oper} {ms:List Nat} {c:bJ} {V:List Vr} {A:List Al} {G:List aI} {i:Nat} {L:Nat->Bool} {β:Nat->Nat->Prop} {a:Act} {w:World} {o:Oper}{d:Nat} {x y z:Operand} {ty:TypeId} {pos:String} {au:Array Edge}{sz:Nat} {H:List Bk} {hv:Value} {l:List Value}
theorem qo {T tx E:TypeId} {n m:Nat} {ag:Bool} {f:Nat->Pred} {v1 yv:Vr} {l':List Value} (k:Nat) (hk:V[k]?=some v1) (ho:bD ms i v1=true) (bT:v1.kd=.obj) (dw:v1.dead=some i) (hst:(v1.st.all λq=>(q.1==i||(ms.getD i 0).testBit q.1)||(ms.getD q.1 0).testBit i)=true)
  (hc:cont (λj=>(ms.getD i 0).testBit j) v1.c0 v1.st=rF H) (k2:Nat) (hk2:V[k2]?=some yv) (hb:yv.born=some i) (cE:yv.kd=.obj) (hc0:yv.c0=vt H hv (n+m) sz (l++l')) (hs0:yv.st=[]) (hal:(A.all λp=>p.var != yv.id||p.tag.any λj=>(ms.getD j 0).testBit i)=true)
  (h1:Has ms G i x (aJ hv)) (h2:Has ms G i y (ax sz ag m f)) (hl0:l.length=n*sz) (hag:ag=false->sz=1) (Cf:∀i,i<m->Fits sz ag (f i)) (hnews:∀(w:World) (cs:List Value),cs.length=m*sz->(∀i,i<m->f i w (ah ag ((cs.drop (i*sz)).take sz)))->cs=l') (ou:(hv=.slice none 0 0/\n=0)\/∃b cap,hv=.slice (some ⟨b,0,none⟩) n cap/\n<=cap/\cap<=maxLen/\fB b l (cap*sz)∈H)
  (ht:nL P T tx E sz) (hpos:0<m) (hmax:n+m<=1073741824) (hp:Post G i az):
  OpOk P ops ms c V A G i ⟨some d,.call ⟨.builtin .append,#[x,y],#[T,tx]⟩,ty,pos,au,none⟩:=by
 refine dJ (λL β a w hI hd hwf=>?_) rfl
 have hx:=List.mem_of_getElem? hk
 have hy:=List.mem_of_getElem? hk2
 have rf:=hd.live ho
 have hO:=jk hI hd hx ho bT
 have hH:bN (β v1.id) w H:=by
  have:=hO.2.out
  rw[fj hd hst,hc]at this
  exact this
 have tX:a.eval x=hv:=(h1.spec hI hd).out
 obtain⟨A2,nY,news,zK,E1,hc2,ij,ng,hnc,yE⟩:=gF hag Cf (h2.spec hI hd)
 have hN:=hnews w news ij λi hi=>(yE i hi).out
 subst hN
 have hlt:l.length+news.length=(n+m)*sz:=by rw[hl0,ij,Nat.add_mul]
 obtain⟨E',Ae⟩:=ht.src
 obtain⟨ti,zv,hi,hsz,hz,hzs,Ah,hby⟩:=ht.info
 have hS:Src P ti.size tx (a.eval y) m news w:=by
  rw[zK,hsz]
  exact qB Ae ij (λu hu=>(ng u hu).2) λh=>by
   obtain⟨b,o,e,hc⟩:=hnc h
   exact⟨b,o,e,λj u hj=>(hc j u hj).1⟩
 have only:∀z,z∈V->live L z=true->z.dead≠some i->z.id≠v1.id:=λz hz _ jw e=>by
  have:=hwf.vu z v1 hz hx e
  subst this
  exact jw dw
 have AQ:∀k j,β v1.id k->own c V L β k j:=λk j hk=>.inr ⟨v1,hx,rf,hk,by unfold Vr.lo; rw[bT]; exact Nat.zero_le _⟩
 have close:∀(w':World) (blk cap':Nat) (cur':List Value) (T':TypeId),w'.heap[blk]?=some (.cells cur'.toArray T' (0,0))->cap'*sz<=cur'.length->n+m<=cap'->cap'<=maxLen->(∀u∈cur',dG u) ->
   cur'.take ((n+m)*sz)=l++news->((∃n c,hv=.slice (some ⟨blk,0,none⟩) n c)\/∀e,e∈H->e.b≠blk)->mine c blk->(w'.os=w.os/\w'.tape=w.tape/\w'.output=w.output/\w.heap.size<=w'.heap.size)->(∀k,k<w.heap.size->k≠blk->w'.heap[k]?=w.heap[k]?)->(blk<w.heap.size->β v1.id blk) ->
   (Builtin.append_ #[T,tx] ty #[a.eval x,a.eval y]).run P w=.ok (.slice (some ⟨blk,0,none⟩) (n+m) cap') w'->Does P ⟨some d,.call ⟨.builtin .append,#[x,y],#[T,tx]⟩,ty,pos,au,none⟩ a w (Inv c V A G (upd L i)):=by
  intro w' blk cap' cur' T' fW mY hle hmx Aa Cp Af dY e0 hsame wY hrun
  refine dc hrun ?_
  have lE:∀k,k<c.w0.heap.size->¬c.dx k->k≠blk:=λk h1 h2 e=>dY.elim (λh3=>by omega) (λh3=>h2 (e▸h3))
  have ext:∀M:Nat->Nat->Prop,(blk<w.heap.size->∀j,M blk j)->Ext M w w':=λM hM=>by
   refine⟨e0.2.2.2,λk hk hno=>hsame k hk λe=>?_,λk o v hno hv=>?_⟩
   ·subst e
    exact hno 0 (hM hk 0)
   ·have hk:=World.block_lt_of_cell? w _ hv
    rw[World.cell?_of_block (w:=w) (a:=⟨k,o,none⟩) (hsame k hk λe=>by subst e; exact hno (hM hk o))]
    exact hv
  have e3:Ext (own c V L β) w w':=ext _ λhk j=>AQ _ j (wY hk)
  have kn:=aL hI
  have hbk:(fB blk (l++news) (cap'*sz)).ok w':=by
   refine⟨cur',T',fW,?_,Aa,λq it hq=>?_⟩
   ·show(dQ (l++news) (cap'*sz)).length*1<=cur'.length
    rw[fA,List.length_append,hlt,Nat.mul_one]
    have:=Nat.mul_le_mul_right sz hle
    omega
   ·have hq:(dQ (l++news) (cap'*sz))[q]?=some it:=hq
    rcases Nat.lt_or_ge q (l++news).length with oz|oz
    ·rw[eN oz]at hq
     injection hq with hq
     subst hq
     show ah false ((cur'.drop (q*1)).take 1)=(l++news)[q]
     have uB:=oz
     rw[List.length_append,hlt]at uB
     have e1:cur'[q]?=some ((l++news)[q]):=by
      have e2:(cur'.take ((n+m)*sz))[q]?=(l++news)[q]?:=by rw[Cp]
      rw[List.getElem?_take,if_pos uB]at e2
      rw[e2,List.getElem?_eq_getElem oz]
     rw[Nat.mul_one]
     obtain⟨hqc,e2⟩:=List.getElem?_eq_some_iff.1 e1
     rw[List.drop_eq_getElem_cons hqc,e2]
     rfl
    ·rw[po oz hq]
     trivial
  have uu:=hH.BK kn e3 hsame hbk
  have fo:=hwf.v2 yv hy hb
  refine hI.kP hd hwf hy hb rfl rfl hal (B':=λk=>β v1.id k\/k=blk) e0 (λk hk hn=>hsame k (Nat.lt_of_lt_of_le hk hI.below.size) (lE k hk hn)) (λz hz hl jw k hk=>?_) e3 (λz hz hl jw=>ext _ λhk j=>⟨AQ _ j (wY hk),λe=>hI.apart z v1 blk hz hx hl rf (only z hz hl jw) e (wY hk)⟩) (λk j hk hB _=>AQ k j (hB.elim (λh=>h) λe=>by subst e; exact wY hk)) (λβ' rj hown rh=>?_) (λβ' rj hown rh e he ht=>?_)
  ·have hkb:k≠blk:=λe=>by
    subst e
    exact hI.apart z v1 k hz hx hl rf (only z hz hl jw) hk (wY (bQ hI hz hl hk))
   exact⟨hsame k (bQ hI hz hl hk) hkb,λh=>h.elim (λh=>hI.apart z v1 k hz hx hl rf (only z hz hl jw) hk h) hkb⟩
  ·refine(aQ cE).2 ?_
   rw[rj]
   have Cl:dm (own c V (upd L i) β') w':=by
    intro q j hq
    rcases rh q j hq with⟨hB,_⟩|h|⟨z,hz,hl,jw,Em⟩
    ·exact⟨(uu.nw hB).1,λv hv=>(uu.nw hB).2 j v hv⟩
    ·obtain⟨⟨k1,k2⟩,k3⟩:=hI.old q j h
     have Bt:=Nat.lt_of_lt_of_le k1 hI.below.size
     refine⟨Nat.lt_of_lt_of_le Bt e0.2.2.2,λv hv=>k3 v ?_⟩
     rw[World.cell?_of_block (w:=w) (a:=⟨q,j,none⟩) (hsame q Bt (lE q k1 k2))]at hv
     exact hv
    ·have Bt:=bQ hI hz hl Em
     have hkb:q≠blk:=λe=>by
      subst e
      exact hI.apart z v1 q hz hx hl rf (only z hz hl jw) Em (wY Bt)
     refine⟨Nat.lt_of_lt_of_le Bt e0.2.2.2,λv hv=>(iW hI hz hl Em).2.2 j v ?_⟩
     rw[World.cell?_of_block (w:=w) (a:=⟨q,j,none⟩) (hsame q Bt hkb)]at hv
     exact hv
   refine⟨λq hq=>⟨?_,(uu.nw hq).1,λo v hv=>(uu.nw hq).2 o v hv⟩,?_⟩
   ·rcases hq with hq|rfl
    ·exact(hO.1 q hq).1
    ·exact dY
   ·rw[hs0,hc0]
    refine(uu.box Cl).imp λw'' h=>⟨(blk,cap'),⟨hle,hmx,Af⟩,?_,h⟩
    rw[fo]
    exact da (by rw[hI.size]; exact hwf.sz _ fo)
  ·exactλw'' _=>hp.spec hwf he ht w'' _ trivial
 have fresh:∀(bs:Option Addr) (sc:Nat),(∀u∈l,dG u)->hv=.slice bs n sc->sc<n+m->(Builtin.firstCells ti.size n (.slice bs n sc)).run P w.drew=.ok l.toArray w.drew ->
   Does P ⟨some d,.call ⟨.builtin .append,#[x,y],#[T,tx]⟩,ty,pos,au,none⟩ a w (Inv c V A G (upd L i)):=by
  intro bs sc Ab e hlt hold
  have hrun:=run_append_grow_src (P:=P) w T tx ty E ti zv ht.under hi hz bs n sc l hold (a.eval y) m news hS hlt (by omega) (growslice_fits hlt (by
   have:(n+m)*ti.bytes<=1073741824*4096:=Nat.mul_le_mul hmax hby
   omega))
  have hge:=grownCap_ge w (n+m) sc E
  have nh:∀q,(Builtin.zeroCells zv.cells q).toList.length=q*sz:=λq=>by rw[Array.length_toList,size_zeroCells,hzs]
  have hb0:Below w.heap.size w (w.drew.alloc (.cells (l++news++(Builtin.zeroCells zv.cells (grownCap w (n+m) sc E-(n+m))).toList).toArray E)):=Below.alloc (Below.drew (Below.refl _ _)) (Nat.le_refl _) _
  refine close (w.drew.alloc (.cells (l++news++(Builtin.zeroCells zv.cells (grownCap w (n+m) sc E-(n+m))).toList).toArray E)) w.heap.size (grownCap w (n+m) sc E) _ E (heap_alloc_new w.drew _) ?_ hge (grownCap_le_maxLen w (n+m) sc E (by unfold maxLen; omega)) ?_ ?_ (.inr λe he=>Nat.ne_of_lt (Bk.gT (hH.2.2 e he))) (.inl hI.below.size) ⟨hb0.os,hb0.tape,hb0.output,hb0.size⟩ (λk hk _=>hb0.block k hk) (λh=>absurd h (Nat.lt_irrefl _)) ?_
  ·rw[List.length_append,List.length_append,hl0,ij,nh,<-Nat.add_mul,<-Nat.add_mul]
   exact Nat.mul_le_mul_right _ (by omega)
  ·intro u hu
   rcases List.mem_append.1 hu with hu|hu
   ·rcases List.mem_append.1 hu with hu|hu
    ·exact Ab u hu
    ·exact(ng u hu).1
   ·exact dS Ah _ u hu
  ·rw[<-show(l++news).length=(n+m)*sz by rw[List.length_append,hl0,ij,Nat.add_mul],List.take_left]
  ·rw[tX,e,hrun]
   congr 3
   apply Array.ext'
   simp
 rcases ou with⟨e,e2⟩|⟨b,cap,e,hrc,Ej,hme⟩
 ·subst e2
  have hl':l=[]:=List.eq_nil_of_length_eq_zero (by rw[hl0,Nat.zero_mul])
  subst hl'
  exact fresh none 0 (λu hu=>by cases hu) e (by omega) (run_firstCells_none w.drew ti.size 0 0 0)
 ·obtain⟨cs,T',g1,g2,g3,g4⟩:=hH.2.2 _ hme
  have g1:w.heap[b]?=some (.cells cs.toArray T' (0,0)):=g1
  have g2:(dQ l (cap*sz)).length*1<=cs.length:=g2
  have zZ:n*sz<=cap*sz:=Nat.mul_le_mul_right _ hrc
  rw[fA,Nat.mul_one,hl0,Nat.max_eq_right zZ]at g2
  have F6:n*sz<=cs.length:=by omega
  have Ad:cs.take (n*sz)=l:=by
   apply List.ext_getElem?
   intro q
   rw[List.getElem?_take]
   split
   ·rename_i hq
    have wS:q<l.length:=by omega
    have h5:=g4 q _ (eN wS)
    have h5:ah false ((cs.drop (q*1)).take 1)=l[q]:=h5
    have hqc:q<cs.length:=by omega
    rw[Nat.mul_one,List.drop_eq_getElem_cons hqc]at h5
    rw[List.getElem?_eq_getElem hqc,List.getElem?_eq_getElem wS]
    exact congrArg some h5
   ·rw[List.getElem?_eq_none (by omega)]
  have Dd:β v1.id b:=(hH.1 _).2 ⟨_,hme,rfl⟩
  by_cases hroom:n+m<=cap
  ·have Ek:(n+m)*sz<=cap*sz:=Nat.mul_le_mul_right _ hroom
   rw[Nat.add_mul]at Ek
   have hsome:∀j,j<news.length->(w.cell? ⟨b,0+n*ti.size+j,none⟩).isSome=true:=by
    intro j hj
    simp only[World.cell?,g1]
    rw[List.getElem?_toArray,List.getElem?_eq_getElem (by rw[hsz]; omega)]
    rfl
   have hfz:∀j,j<news.length->w.frozen? ⟨b,0+n*ti.size+j,none⟩=false:=by
    intro j hj
    simp[World.frozen?,g1]
   have hrun:=run_append_room_src (P:=P) w T tx ty E ti ht.under hi b 0 n cap (a.eval y) m news hS hroom hsome hfz
   have dM:w.setCells b (0+n*ti.size) news=w.setRow b (cs.take (n*sz)++news++cs.drop (n*sz+news.length)).toArray:=by
    have r1:=run_storeCells_cells (P:=P) b (0+n*ti.size) news 0 w (by simpa using hsome) (by simpa using hfz) λu hu=>(ng u hu).2
    have r2:=run_storeCells_at P b (0+n*ti.size) T' news 0 cs.toArray w g1 (by simp[hsz]; omega) λu hu=>(ng u hu).2
    rw[r1]at r2
    injection r2 with _ r2
    simpa [hsz] using r2
   rw[dM]at hrun
   refine close _ b cap (cs.take (n*sz)++news++cs.drop (n*sz+news.length)) T' (setRow_heap w _ _ _ _ _ g1) ?_ hroom Ej ?_ ?_ (.inl ⟨_,_,e⟩) (hO.1 _ Dd).1 ⟨rfl,rfl,rfl,Nat.le_of_eq size_setRow.symm⟩ (λk _ hne=>ak hne) (λ_=>Dd) ?_
   ·simp only[List.length_append,List.length_take,List.length_drop,ij]; omega
   ·intro u hu
    simp only[List.mem_append]at hu
    rcases hu with(hu|hu)|hu
    ·exact g3 u (List.mem_of_mem_take hu)
    ·exact(ng u hu).1
    ·exact g3 u (List.mem_of_mem_drop hu)
   ·rw[Ad,<-show(l++news).length=(n+m)*sz by rw[List.length_append,hl0,ij,Nat.add_mul],List.take_left]
   ·rw[tX,e]
    exact hrun
  ·refine fresh (some ⟨b,0,none⟩) cap (λu hu=>g3 u (List.mem_of_mem_take (Ad▸hu))) e (by omega) ?_
   rw[hsz]
   refine run_firstCells_some w.drew sz n ⟨b,0,none⟩ n cap l hl0 λj u hj=>?_
   rw[Addr.add_mid]
   show w.cell? ⟨b,0+j,none⟩=some u
   rw[Nat.zero_add]
   simp only[World.cell?,g1]
   rw[<-Ad,List.getElem?_take]at hj
   split at hj
   ·simpa using hj
   ·cases hj
theorem AP {N id s:Nat} (h:Inv c V [] G none_ a w) (n0:Nat) (hk:V[n0]?=some ⟨id,s,none,none,.obj,0,0,false,vt H hv N sz l,[]⟩) (hu:(V.filter λy=>y.id==id).length=1):
  ∃z:Nat×Nat,gN H hv N z/\Inv c (V.set n0 (aP id s (iq H z.1 (dQ l (z.2*sz))))) [] (⟨none,none,s,aJ (.slice (some ⟨z.1,0,none⟩) N z.2)⟩::G) none_ a w:=
 Inv.CM (C:=λz:Nat×Nat=>gN H hv N z) (hd:=λz=>.slice (some ⟨z.1,0,none⟩) N z.2) (Hl:=λz=>iq H z.1 (dQ l (z.2*sz))) h hk (λz z' e=>by
  injection e with e1 _ e3
  injection e1 with e1
  injection e1 with e1
  exact Prod.ext e1 e3) hu
end
end Wx
