import Derived.Test.YtfnmkhlleanppaaGreatDoorCWCWk24
import Derived.Test.YtfnmkhlleanppaaGreatDoorCWCWk25
namespace Wx
set_option maxRecDepth 100000
open Go Go.RowKit Go.Proofs
set_option linter.unusedVariables false
attribute [local irreducible] OpOk
theorem AF (t:ByteArray):qQ t<=t.size:=by
 have:=lO t
 unfold qQ
 split<;>omega
set_option maxHeartbeats 4000000 in
theorem zY {t:ByteArray} (K7:J0 Tryz.prog 7 (pB true)):J1 Tryz.prog 5 (pT t) (pB true):=by
 intro M w0 v0 hM hG hv0
 have hG:=dP hG
 refine fR (N:=48) Tryz.func5 rfl rfl rfl hM hv0 λa hI=>?_
 refine au hI 1 [Uc 0 2 _] (.k .z) ⟨mv,trivial⟩ (.kk .z) λa w hI=>?_
 refine ah ?_
 refine au hI 3 [Uc 0 7 _,Uc 1 8 _,Uc 2 9 _] (.kk .z) ⟨mv,gF,bn,trivial⟩ (.bK (.k .z)) λa w hI=>?_
 refine jv hI (λt1=>?_) (λt1=>?_)
 ·
  refine au hI 2 [Uc 0 10 _,Uc 1 2 _] (.k (.t 1 (.k .z))) ⟨KS hG (λ_:True=>K7),mv,trivial⟩ (.gE (.k .z)) λa w hI=>?_
  refine av ?_
  refine aj ?_
  exact bW hI rfl (cm (hq:=λ_ _ h=>h))
 ·
  have hM:=AF t
  refine ak ?_
  refine ae ?_
  refine bO hI 8 [⟨3,3,some 5,none,.ptr,39,3,true,pv _,[(6,pv _)]⟩] [] [Uc 0 12 _,Uc 1 13 _,Uc 2 11 _,Uc 3 14 _,Uc 4 15 _,Uc 7 4 _] .z (.aU .z) ⟨mv,Ai hG (Bp (t:=t)) (hφ:=by omega),mv,ext,ext,F2 [.s,.i,.n],fj rfl rfl hs rfl rfl (bV (by kernel_rfl)) jM (by kernel_rfl),mv,trivial⟩ (.s .o .z) (.bK (.bp (.k .z))) λa w hI=>?_
  have hI:=gY hI 0 rfl (by kernel_rfl)
  dsimp only[List.eraseIdx]at hI
  refine bO hI 8 [⟨5,5,some 5,none,.ptr,42,3,true,pv _,[(6,pv _)]⟩] [] [Uc 0 17 _,Uc 1 18 _,Uc 2 16 _,Uc 3 19 _,Uc 4 20 _,Uc 7 6 _] .z (.af .z) ⟨mv,nH (Cb (t:=t)) (hφ:=by omega),mv,ext,ext,F2 [.s,.i,.n],fj rfl rfl hs rfl rfl (bV (by kernel_rfl)) jM (by kernel_rfl),mv,trivial⟩ (.s .o .z) (.mI (.bp (.dk .z))) λa w hI=>?_
  have hI:=gY hI 0 rfl (by kernel_rfl)
  dsimp only[List.eraseIdx]at hI
  refine au hI 28 [Uc 0 21 _,Uc 1 22 _,Uc 2 23 _,Uc 3 24 _,Uc 4 25 _,Uc 5 26 _,Uc 6 27 _,Uc 7 28 _,Uc 8 29 _,Uc 9 30 _,Uc 10 31 _,Uc 11 32 _,Uc 12 33 _,Uc 13 34 _,Uc 14 35 _,Uc 15 36 _,Uc 16 37 _,Uc 17 38 _,Uc 18 39 _,Uc 19 40 _,Uc 20 41 _,Uc 21 42 _,Uc 22 43 _,Uc 23 44 _,Uc 24 45 _,Uc 25 46 _,Uc 26 47 _,Uc 27 2 _] (.kk (.t 27 (.kk .z))) ⟨mv,mv,bn,mv,gd λh=>fP 0 1 false (h:=hg) (hp:=pg h rfl),gd λh=>ax hg (pg h rfl) (by kernel_rfl) (aE _),gd λh=>fP 0 1 false (h:=hg) (hp:=pg h rfl),gd λh=>ax hg (pg h rfl) (by kernel_rfl) (aE _),gd λh=>D5 h,pk,mv,gd λh=>fP 1 1 false (h:=hg) (hp:=pg h rfl),gd λh=>ax hg (pg h rfl) (by kernel_rfl) (fits_int _),gd λh=>fP 1 1 false (h:=hg) (hp:=pg h rfl),gd λh=>ax hg (pg h rfl) (by kernel_rfl) (fits_int _),gd λh=>fS h,pk,mv,gd λh=>fP 2 1 false (h:=hg) (hp:=pg h rfl),gd λh=>ax hg (pg h rfl) (by kernel_rfl) aP,gd λh=>fP 2 1 false (h:=hg) (hp:=pg h rfl),gd λh=>ax hg (pg h rfl) (by kernel_rfl) aP,gd λh=>ri h (EO (n:=qQ t) (m:=qQ t) (f:=λk=>cZ t (k+1)) (g:=λk=>cZ t (k+1))) (hφ:=by omega),pk,mv,gd λh=>KS hG (λ_:True=>K7) (hp:=pg h rfl),pk,mv,trivial⟩ (.d8 (.d8 (.d8 (.d8 (.k .z))))) λa w hI=>?_
  refine av ?_
  exact bW hI rfl (cm (hq:=cQ (by simp[wJ])))
end Wx

namespace Wx
open Go Go.RowKit
section
variable {P:Program} {ops:Array Oper} {ms:List Nat} {c:bQ} {V:List Vr} {A:List Al} {G:List aN} {i:Nat} {L:Nat->Bool} {β:Nat->Nat->Prop} {a:Act} {w:World} {o:Oper}{d:Nat} {x y z:Operand} {ty:TypeId} {pos:String} {aft:Array Edge}{sz:Nat} {H:List Bk} {hv:Value} {l:List Value}
theorem tF {T tx E:TypeId} {n m:Nat} {ag:Bool} {f:Nat->Pred} {v1 yv:Vr} {l':List Value} (k:Nat) (hk:V[k]?=some v1) (ho:bC ms i v1=true) (bR:v1.kd=.obj) (fD:v1.dead=some i) (hst:(v1.st.all λq=>(q.1==i||(ms.getD i 0).testBit q.1)||(ms.getD q.1 0).testBit i)=true)
  (hc:cont (λj=>(ms.getD i 0).testBit j) v1.c0 v1.st=uN H) (k2:Nat) (hk2:V[k2]?=some yv) (hb:yv.born=some i) (eD:yv.kd=.obj) (hc0:yv.c0=zw H hv (n+m) sz (l++l')) (hs0:yv.st=[]) (hal:(A.all λp=>p.var != yv.id||p.tag.any λj=>(ms.getD j 0).testBit i)=true)
  (h1:Has ms G i x (aG hv)) (h2:Has ms G i y (aI sz ag m f)) (hl0:l.length=n*sz) (hag:ag=false->sz=1) (GX:∀i,i<m->Fits sz ag (f i)) (hnews:∀(w:World) (cs:List Value),cs.length=m*sz->(∀i,i<m->f i w (aq ag ((cs.drop (i*sz)).take sz)))->cs=l') (rj:(hv=.slice none 0 0/\n=0)\/∃b cap,hv=.slice (some ⟨b,0,none⟩) n cap/\n<=cap/\cap<=maxLen/\fB b l (cap*sz)∈H)
  (ht:lf P T tx E sz) (hpos:0<m) (hmax:n+m<=1073741824) (hp:Post G i aT):
  OpOk P ops ms c V A G i ⟨some d,.call ⟨.builtin .append,#[x,y],#[T,tx]⟩,ty,pos,aft,none⟩:=by
 refine eZ (λL β a w hI hd hwf=>?_) rfl
 have hx:=List.mem_of_getElem? hk
 have hy:=List.mem_of_getElem? hk2
 have tf:=hd.live ho
 have hO:=jl hI hd hx ho bR
 have hH:cn (β v1.id) w H:=by
  have:=hO.2.out
  rw[fq hd hst,hc]at this
  exact this
 have CI:a.eval x=hv:=(h1.spec hI hd).out
 obtain⟨A2,sQ,news,DX,JY,hc2,jh,kF,hnc,rA⟩:=iO hag GX (h2.spec hI hd)
 have hN:=hnews w news jh λi hi=>(rA i hi).out
 subst hN
 have hlt:l.length+news.length=(n+m)*sz:=by rw[hl0,jh,Nat.add_mul]
 obtain⟨E',Ep⟩:=ht.src
 obtain⟨ti,zv,hi,hsz,hz,hzs,Ew,hby⟩:=ht.info
 have hS:Src P ti.size tx (a.eval y) m news w:=by
  rw[DX,hsz]
  exact qv Ep jh (λu hu=>(kF u hu).2) λh=>by
   obtain⟨b,o,e,hc⟩:=hnc h
   exact⟨b,o,e,λj u hj=>(hc j u hj).1⟩
 have only:∀z,z∈V->live L z=true->z.dead≠some i->z.id≠v1.id:=λz hz _ lq e=>by
  have:=hwf.vu z v1 hz hx e
  subst this
  exact lq fD
 have Fh:∀k j,β v1.id k->own c V L β k j:=λk j hk=>.inr ⟨v1,hx,tf,hk,by unfold Vr.lo; rw[bR]; exact Nat.zero_le _⟩
 have close:∀(w':World) (blk cap':Nat) (cur':List Value) (T':TypeId),w'.heap[blk]?=some (.cells cur'.toArray T' (0,0))->cap'*sz<=cur'.length->n+m<=cap'->cap'<=maxLen->(∀u∈cur',dB u) ->
   cur'.take ((n+m)*sz)=l++news->((∃n c,hv=.slice (some ⟨blk,0,none⟩) n c)\/∀e,e∈H->e.b≠blk)->mine c blk->(w'.os=w.os/\w'.tape=w.tape/\w'.output=w.output/\w.heap.size<=w'.heap.size)->(∀k,k<w.heap.size->k≠blk->w'.heap[k]?=w.heap[k]?)->(blk<w.heap.size->β v1.id blk) ->
   (Builtin.append_ #[T,tx] ty #[a.eval x,a.eval y]).run P w=.ok (.slice (some ⟨blk,0,none⟩) (n+m) cap') w'->Does P ⟨some d,.call ⟨.builtin .append,#[x,y],#[T,tx]⟩,ty,pos,aft,none⟩ a w (Inv c V A G (upd L i)):=by
  intro w' blk cap' cur' T' dV lp hle hmx Ek Hp Er dD e0 hsame Bf hrun
  refine di hrun ?_
  have nM:∀k,k<c.w0.heap.size->¬c.dc k->k≠blk:=λk h1 h2 e=>dD.elim (λh3=>by omega) (λh3=>h2 (e▸h3))
  have ext:∀M:Nat->Nat->Prop,(blk<w.heap.size->∀j,M blk j)->Ext M w w':=λM hM=>by
   refine⟨e0.2.2.2,λk hk hno=>hsame k hk λe=>?_,λk o v hno hv=>?_⟩
   ·subst e
    exact hno 0 (hM hk 0)
   ·have hk:=World.block_lt_of_cell? w _ hv
    rw[World.cell?_of_block (w:=w) (a:=⟨k,o,none⟩) (hsame k hk λe=>by subst e; exact hno (hM hk o))]
    exact hv
  have e3:Ext (own c V L β) w w':=ext _ λhk j=>Fh _ j (Bf hk)
  have fg:=aF hI
  have hbk:(fB blk (l++news) (cap'*sz)).ok w':=by
   refine⟨cur',T',dV,?_,Ek,λq it hq=>?_⟩
   ·show(eI (l++news) (cap'*sz)).length*1<=cur'.length
    rw[gI,List.length_append,hlt,Nat.mul_one]
    have:=Nat.mul_le_mul_right sz hle
    omega
   ·have hq:(eI (l++news) (cap'*sz))[q]?=some it:=hq
    rcases Nat.lt_or_ge q (l++news).length with rC|rC
    ·rw[fQ rC]at hq
     injection hq with hq
     subst hq
     show aq false ((cur'.drop (q*1)).take 1)=(l++news)[q]
     have yh:=rC
     rw[List.length_append,hlt]at yh
     have e1:cur'[q]?=some ((l++news)[q]):=by
      have e2:(cur'.take ((n+m)*sz))[q]?=(l++news)[q]?:=by rw[Hp]
      rw[List.getElem?_take,if_pos yh]at e2
      rw[e2,List.getElem?_eq_getElem rC]
     rw[Nat.mul_one]
     obtain⟨hqc,e2⟩:=List.getElem?_eq_some_iff.1 e1
     rw[List.drop_eq_getElem_cons hqc,e2]
     rfl
    ·rw[sx rC hq]
     trivial
  have xS:=hH.Gg fg e3 hsame hbk
  have gD:=hwf.v2 yv hy hb
  refine hI.ni hd hwf hy hb rfl rfl hal (B':=λk=>β v1.id k\/k=blk) e0 (λk hk hn=>hsame k (Nat.lt_of_lt_of_le hk hI.below.size) (nM k hk hn)) (λz hz hl lq k hk=>?_) e3 (λz hz hl lq=>ext _ λhk j=>⟨Fh _ j (Bf hk),λe=>hI.apart z v1 blk hz hx hl tf (only z hz hl lq) e (Bf hk)⟩) (λk j hk hB _=>Fh k j (hB.elim (λh=>h) λe=>by subst e; exact Bf hk)) (λβ' uB hown uz=>?_) (λβ' uB hown uz e he ht=>?_)
  ·have hkb:k≠blk:=λe=>by
    subst e
    exact hI.apart z v1 k hz hx hl tf (only z hz hl lq) hk (Bf (cE hI hz hl hk))
   exact⟨hsame k (cE hI hz hl hk) hkb,λh=>h.elim (λh=>hI.apart z v1 k hz hx hl tf (only z hz hl lq) hk h) hkb⟩
  ·refine(aB eD).2 ?_
   rw[uB]
   have G7:cS (own c V (upd L i) β') w':=by
    intro q j hq
    rcases uz q j hq with⟨hB,_⟩|h|⟨z,hz,hl,lq,Kh⟩
    ·exact⟨(xS.qf hB).1,λv hv=>(xS.qf hB).2 j v hv⟩
    ·obtain⟨⟨k1,k2⟩,k3⟩:=hI.old q j h
     have CX:=Nat.lt_of_lt_of_le k1 hI.below.size
     refine⟨Nat.lt_of_lt_of_le CX e0.2.2.2,λv hv=>k3 v ?_⟩
     rw[World.cell?_of_block (w:=w) (a:=⟨q,j,none⟩) (hsame q CX (nM q k1 k2))]at hv
     exact hv
    ·have CX:=cE hI hz hl Kh
     have hkb:q≠blk:=λe=>by
      subst e
      exact hI.apart z v1 q hz hx hl tf (only z hz hl lq) Kh (Bf CX)
     refine⟨Nat.lt_of_lt_of_le CX e0.2.2.2,λv hv=>(kB hI hz hl Kh).2.2 j v ?_⟩
     rw[World.cell?_of_block (w:=w) (a:=⟨q,j,none⟩) (hsame q CX hkb)]at hv
     exact hv
   refine⟨λq hq=>⟨?_,(xS.qf hq).1,λo v hv=>(xS.qf hq).2 o v hv⟩,?_⟩
   ·rcases hq with hq|rfl
    ·exact(hO.1 q hq).1
    ·exact dD
   ·rw[hs0,hc0]
    refine(xS.box G7).imp λw'' h=>⟨(blk,cap'),⟨hle,hmx,Er⟩,?_,h⟩
    rw[gD]
    exact dr (by rw[hI.size]; exact hwf.sz _ gD)
  ·exactλw'' _=>hp.spec hwf he ht w'' _ trivial
 have fresh:∀(bs:Option Addr) (sc:Nat),(∀u∈l,dB u)->hv=.slice bs n sc->sc<n+m->(Builtin.firstCells ti.size n (.slice bs n sc)).run P w.drew=.ok l.toArray w.drew ->
   Does P ⟨some d,.call ⟨.builtin .append,#[x,y],#[T,tx]⟩,ty,pos,aft,none⟩ a w (Inv c V A G (upd L i)):=by
  intro bs sc Em e hlt hold
  have hrun:=run_append_grow_src (P:=P) w T tx ty E ti zv ht.under hi hz bs n sc l hold (a.eval y) m news hS hlt (by omega) (growslice_fits hlt (by
   have:(n+m)*ti.bytes<=1073741824*4096:=Nat.mul_le_mul hmax hby
   omega))
  have hge:=grownCap_ge w (n+m) sc E
  have pL:∀q,(Builtin.zeroCells zv.cells q).toList.length=q*sz:=λq=>by rw[Array.length_toList,size_zeroCells,hzs]
  have hb0:Below w.heap.size w (w.drew.alloc (.cells (l++news++(Builtin.zeroCells zv.cells (grownCap w (n+m) sc E-(n+m))).toList).toArray E)):=Below.alloc (Below.drew (Below.refl _ _)) (Nat.le_refl _) _
  refine close (w.drew.alloc (.cells (l++news++(Builtin.zeroCells zv.cells (grownCap w (n+m) sc E-(n+m))).toList).toArray E)) w.heap.size (grownCap w (n+m) sc E) _ E (heap_alloc_new w.drew _) ?_ hge (grownCap_le_maxLen w (n+m) sc E (by unfold maxLen; omega)) ?_ ?_ (.inr λe he=>Nat.ne_of_lt (Bk.je (hH.2.2 e he))) (.inl hI.below.size) ⟨hb0.os,hb0.tape,hb0.output,hb0.size⟩ (λk hk _=>hb0.block k hk) (λh=>absurd h (Nat.lt_irrefl _)) ?_
  ·rw[List.length_append,List.length_append,hl0,jh,pL,<-Nat.add_mul,<-Nat.add_mul]
   exact Nat.mul_le_mul_right _ (by omega)
  ·intro u hu
   rcases List.mem_append.1 hu with hu|hu
   ·rcases List.mem_append.1 hu with hu|hu
    ·exact Em u hu
    ·exact(kF u hu).1
   ·exact eK Ew _ u hu
  ·rw[<-show(l++news).length=(n+m)*sz by rw[List.length_append,hl0,jh,Nat.add_mul],List.take_left]
  ·rw[CI,e,hrun]
   congr 3
   apply Array.ext'
   simp
 rcases rj with⟨e,e2⟩|⟨b,cap,e,hrc,Kb,hme⟩
 ·subst e2
  have hl':l=[]:=List.eq_nil_of_length_eq_zero (by rw[hl0,Nat.zero_mul])
  subst hl'
  exact fresh none 0 (λu hu=>by cases hu) e (by omega) (run_firstCells_none w.drew ti.size 0 0 0)
 ·obtain⟨cs,T',g1,g2,g3,g4⟩:=hH.2.2 _ hme
  have g1:w.heap[b]?=some (.cells cs.toArray T' (0,0)):=g1
  have g2:(eI l (cap*sz)).length*1<=cs.length:=g2
  have Ej:n*sz<=cap*sz:=Nat.mul_le_mul_right _ hrc
  rw[gI,Nat.mul_one,hl0,Nat.max_eq_right Ej]at g2
  have Mt:n*sz<=cs.length:=by omega
  have yn:cs.take (n*sz)=l:=by
   apply List.ext_getElem?
   intro q
   rw[List.getElem?_take]
   split
   ·rename_i hq
    have vP:q<l.length:=by omega
    have h5:=g4 q _ (fQ vP)
    have h5:aq false ((cs.drop (q*1)).take 1)=l[q]:=h5
    have hqc:q<cs.length:=by omega
    rw[Nat.mul_one,List.drop_eq_getElem_cons hqc]at h5
    rw[List.getElem?_eq_getElem hqc,List.getElem?_eq_getElem vP]
    exact congrArg some h5
   ·rw[List.getElem?_eq_none (by omega)]
  have II:β v1.id b:=(hH.1 _).2 ⟨_,hme,rfl⟩
  by_cases hroom:n+m<=cap
  ·have Kc:(n+m)*sz<=cap*sz:=Nat.mul_le_mul_right _ hroom
   rw[Nat.add_mul]at Kc
   have hsome:∀j,j<news.length->(w.cell? ⟨b,0+n*ti.size+j,none⟩).isSome=true:=by
    intro j hj
    simp only[World.cell?,g1]
    rw[List.getElem?_toArray,List.getElem?_eq_getElem (by rw[hsz]; omega)]
    rfl
   have hfz:∀j,j<news.length->w.frozen? ⟨b,0+n*ti.size+j,none⟩=false:=by
    intro j hj
    simp[World.frozen?,g1]
   have hrun:=run_append_room_src (P:=P) w T tx ty E ti ht.under hi b 0 n cap (a.eval y) m news hS hroom hsome hfz
   have dm:w.setCells b (0+n*ti.size) news=w.setRow b (cs.take (n*sz)++news++cs.drop (n*sz+news.length)).toArray:=by
    have r1:=run_storeCells_cells (P:=P) b (0+n*ti.size) news 0 w (by simpa using hsome) (by simpa using hfz) λu hu=>(kF u hu).2
    have r2:=run_storeCells_at P b (0+n*ti.size) T' news 0 cs.toArray w g1 (by simp[hsz]; omega) λu hu=>(kF u hu).2
    rw[r1]at r2
    injection r2 with _ r2
    simpa [hsz] using r2
   rw[dm]at hrun
   refine close _ b cap (cs.take (n*sz)++news++cs.drop (n*sz+news.length)) T' (setRow_heap w _ _ _ _ _ g1) ?_ hroom Kb ?_ ?_ (.inl ⟨_,_,e⟩) (hO.1 _ II).1 ⟨rfl,rfl,rfl,Nat.le_of_eq size_setRow.symm⟩ (λk _ hne=>ai hne) (λ_=>II) ?_
   ·simp only[List.length_append,List.length_take,List.length_drop,jh]; omega
   ·intro u hu
    simp only[List.mem_append]at hu
    rcases hu with(hu|hu)|hu
    ·exact g3 u (List.mem_of_mem_take hu)
    ·exact(kF u hu).1
    ·exact g3 u (List.mem_of_mem_drop hu)
   ·rw[yn,<-show(l++news).length=(n+m)*sz by rw[List.length_append,hl0,jh,Nat.add_mul],List.take_left]
   ·rw[CI,e]
    exact hrun
  ·refine fresh (some ⟨b,0,none⟩) cap (λu hu=>g3 u (List.mem_of_mem_take (yn▸hu))) e (by omega) ?_
   rw[hsz]
   refine run_firstCells_some w.drew sz n ⟨b,0,none⟩ n cap l hl0 λj u hj=>?_
   rw[Addr.add_mid]
   show w.cell? ⟨b,0+j,none⟩=some u
   rw[Nat.zero_add]
   simp only[World.cell?,g1]
   rw[<-yn,List.getElem?_take]at hj
   split at hj
   ·simpa using hj
   ·cases hj
theorem Ff {N id s:Nat} (h:Inv c V [] G none_ a w) (n0:Nat) (hk:V[n0]?=some ⟨id,s,none,none,.obj,0,0,false,zw H hv N sz l,[]⟩) (hu:(V.filter λy=>y.id==id).length=1):
  ∃z:Nat×Nat,iX H hv N z/\Inv c (V.set n0 (aZ id s (jA H z.1 (eI l (z.2*sz))))) [] (⟨none,none,s,aG (.slice (some ⟨z.1,0,none⟩) N z.2)⟩::G) none_ a w:=
 Inv.HX (C:=λz:Nat×Nat=>iX H hv N z) (hd:=λz=>.slice (some ⟨z.1,0,none⟩) N z.2) (Hl:=λz=>jA H z.1 (eI l (z.2*sz))) h hk (λz z' e=>by
  injection e with e1 _ e3
  injection e1 with e1
  injection e1 with e1
  exact Prod.ext e1 e3) hu
end
end Wx
