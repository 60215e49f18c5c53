import Derived.Test.YtkcceahelokheaaGreatJLT22
namespace Wx
open Go Go.RowKit
def Bn (H:List Bk) (hv:Value) (l l':List Rat) (r':ct):Prop:=r'.n=l.length+l'.length/\r'.n<=r'.cap/\r'.cap<=maxLen/\((∃r:ct,hv=r.hdr/\r'.b=r.b)\/∀e,e∈H->e.b≠r'.b)
def appH (H:List Bk) (b:Nat) (items:List It):List Bk:=⟨b,3,true,items⟩::H.filter λe=>e.b != b
def Sz (H:List Bk) (hv:Value) (l l':List Rat):Rel:=λB w v=>∃r':ct,Bn H hv l l' r'/\v=r'.hdr/\dn B w (appH H r'.b (bq (l++l') r'.cap))
variable {H:List Bk} {b:Nat} {items:List It}
theorem yN:(⟨b,3,true,items⟩:Bk)∈appH H b items:=List.mem_cons_self ..
theorem jS {e:Bk} (he:e∈H) (hb:e.b≠b):e∈appH H b items:=List.mem_cons_of_mem _ (List.mem_filter.2 ⟨he,by simpa using hb⟩)
theorem dn.app {B:Nat->Prop} {M:Nat->Nat->Prop} {w w':World} (h:dn B w H) (hM:cL M w) (he:Ext M w w') (hb:∀k,k<w.heap.size->k≠b->w'.heap[k]?=w.heap[k]?) (hn:(⟨b,3,true,items⟩:Bk).ok w'):dn (λk=>B k\/k=b) w' (appH H b items):=by
 obtain⟨h1,h2,h3⟩:=h
 refine⟨λk=>⟨?_,?_⟩,List.pairwise_cons.2 ⟨λe hm=>?_,h2.filter _⟩,λe hm=>?_⟩
 ·rintro(hk|rfl)
  ·obtain⟨e,hm,rfl⟩:=(h1 k).1 hk
   by_cases hb':e.b=b
   ·exact⟨_,yN,hb'.symm⟩
   ·exact⟨e,jS hm hb',rfl⟩
  ·exact⟨_,yN,rfl⟩
 ·rintro⟨e,hm,rfl⟩
  rcases List.mem_cons.1 hm with rfl|hm
  ·exact .inr rfl
  ·exact .inl ((h1 _).2 ⟨e,(List.mem_filter.1 hm).1,rfl⟩)
 ·have:=(List.mem_filter.1 hm).2
  exactλe'=>by rw[<-e']at this; simp at this
 ·rcases List.mem_cons.1 hm with rfl|hm
  ·exact hn
  ·have hm':=List.mem_filter.1 hm
   exact Bk.yy (h3 e hm'.1) hM he (hb _ (Bk.uQ (h3 e hm'.1)) (by simpa using hm'.2))
section
variable {P:Program} {ops:Array Oper} {ms:List Nat} {c:fT} {V:List Vr} {A:List Al} {G:List bz} {i:Nat} {L:Nat->Bool} {β:Nat->Nat->Prop} {a:Act} {w:World} {o:Oper}{d:Nat} {x y z:Operand} {ty:TypeId} {pos:String} {aft:Array Edge}{T E:TypeId} {yv:Vr} {H:List Bk} {hv:Value} {l l':List Rat}
theorem zP {tx:TypeId} {v1:Vr} (k:Nat) (hk:V[k]?=some v1) (ho:bE ms i v1=true) (bR:v1.kd=.obj) (gb:v1.dead=some i) (hst:(v1.st.all λq=>(q.1==i||(ms.getD i 0).testBit q.1)||(ms.getD q.1 0).testBit i)=true)
  (hc:cont (λj=>(ms.getD i 0).testBit j) v1.c0 v1.st=wJ H) (k2:Nat) (hk2:V[k2]?=some yv) (hb:yv.born=some i) (cW:yv.kd=.obj) (hc0:yv.c0=Sz H hv l l') (hs0:yv.st=[]) (dX:(A.all λp=>p.var != yv.id||p.tag.any λj=>(ms.getD j 0).testBit i)=true)
  (h1:Has ms G i x (bg hv)) (h2:Has ms G i y (aA 3 true l'.length λj=>au (l'.getD j 0))) (YJ:(hv=.slice none 0 0/\l=[])\/∃r:ct,hv=r.hdr/\r.n=l.length/\r.n<=r.cap/\r.cap<=maxLen/\(⟨r.b,3,true,bq l r.cap⟩:Bk)∈H)
  (ht:tW P T tx E 3) (hpos:0<l'.length) (hmax:l.length+l'.length<=1073741824) (hp:Post G i cY):
  OpOk P ops ms c V A G i ⟨some d,.call ⟨.builtin .append,#[x,y],#[T,tx]⟩,ty,pos,aft,none⟩:=by
 refine gI (λL β a w hI hd hwf=>?_) rfl
 have hx:=List.mem_of_getElem? hk
 have hy:=List.mem_of_getElem? hk2
 have BU:=hd.live ho
 have hO:=wD hI hd hx ho bR
 have hH:dn (β v1.id) w H:=by
  have:=hO.2.out
  rw[oA hd hst,hc]at this
  exact this
 have QW:a.eval x=hv:=(h1.spec hI hd).out
 obtain⟨A2,yS,news,Rs,Nz,hc2,ql,uy,hnc,Ej⟩:=mO (agg:=true) (λh=>by cases h) (λ_ _=>cV _) (h2.spec hI hd)
 obtain⟨E',RQ⟩:=ht.src
 obtain⟨ti,zv,hi,hsz,hz,hzs,RT,hby⟩:=ht.info
 have hS:Src P ti.size tx (a.eval y) l'.length news w:=by
  rw[Rs,hsz]
  exact Am RQ ql (λu hu=>(uy u hu).2) λh=>by
   obtain⟨b,o,e,hc⟩:=hnc h
   exact⟨b,o,e,λj u hj=>(hc j u hj).1⟩
 have only:∀z,z∈V->live L z=true->z.dead≠some i->z.id≠v1.id:=λz hz _ sD e=>by
  have:=hwf.vu z v1 hz hx e
  subst this
  exact sD gb
 have V6:∀k j,β v1.id k->own c V L β k j:=λk j hk=>.inr ⟨v1,hx,BU,hk,by unfold Vr.lo; rw[bR]; exact Nat.zero_le _⟩
 have close:∀(olds:List Value) (w':World) (blk cap':Nat) (cur':List Value) (T':TypeId),olds.length=l.length*3->(∀i,i<l.length->au (l.getD i 0) w (aj true ((olds.drop (i*3)).take 3)))->w'.heap[blk]?=some (.cells cur'.toArray T' (0,0))->cap'*3<=cur'.length->l.length+l'.length<=cap'->cap'<=maxLen->(∀u∈cur',iw u) ->
   cur'.take ((l.length+l'.length)*3)=olds++news->((∃r:ct,hv=r.hdr/\blk=r.b)\/∀e,e∈H->e.b≠blk)->mine c blk->(w'.os=w.os/\w'.tape=w.tape/\w'.output=w.output/\w.heap.size<=w'.heap.size)->(∀k,k<w.heap.size->k≠blk->w'.heap[k]?=w.heap[k]?)->(blk<w.heap.size->β v1.id blk) ->
   (Builtin.append_ #[T,tx] ty #[a.eval x,a.eval y]).run P w=.ok (.slice (some ⟨blk,0,none⟩) (l.length+l'.length) cap') w'->Does P ⟨some d,.call ⟨.builtin .append,#[x,y],#[T,tx]⟩,ty,pos,aft,none⟩ a w (Inv c V A G (upd L i)):=by
  intro olds w' blk cap' cur' T' dB Ic jq qo hle hmx acO Ih ac9 fF e0 hsame Xg hrun
  refine fD hrun ?_
  have ux:∀k,k<c.w0.heap.size->¬c.kr k->k≠blk:=λk h1 h2 e=>fF.elim (λh3=>by omega) (λh3=>h2 (e▸h3))
  have ext:∀M:Nat->Nat->Prop,(blk<w.heap.size->∀j,M blk j)->Ext M w w':=λM hM=>by
   refine⟨e0.2.2.2,λk hk hno=>hsame k hk λe=>?_,λk o v hno hv=>?_⟩
   ·subst e
    exact hno 0 (hM hk 0)
   ·have hk:=World.block_lt_of_cell? w _ hv
    rw[World.cell?_of_block (w:=w) (a:=⟨k,o,none⟩) (hsame k hk λe=>by subst e; exact hno (hM hk o))]
    exact hv
  have e3:Ext (own c V L β) w w':=ext _ λhk j=>V6 _ j (Xg hk)
  have ki:=aS hI
  have hbk:(⟨blk,3,true,bq (l++l') cap'⟩:Bk).ok w':=by
   refine⟨cur',T',jq,?_,acO,λq it hq=>?_⟩
   ·show(bq (l++l') cap').length*3<=cur'.length
    rw[kD,List.length_append]
    exact Nat.le_trans (Nat.mul_le_mul_right _ (by omega)) qo
   ·have hq:(bq (l++l') cap')[q]?=some it:=hq
    rcases Nat.lt_or_ge q (l++l').length with GB|GB
    ·rw[fq GB]at hq
     injection hq with hq
     subst hq
     rw[List.length_append]at GB
     have Dk:(cur'.drop (q*3)).take 3=((olds++news).drop (q*3)).take 3:=by
      rw[<-Ih,List.drop_take,List.take_take,show min 3 ((l.length+l'.length)*3-q*3)=3 by omega]
     show au ((l++l').getD q 0) w' (aj true ((cur'.drop (q*3)).take 3))
     rw[Dk,List.getD_eq_getElem?_getD]
     rcases Nat.lt_or_ge q l.length with h'|h'
     ·rw[List.drop_append_of_le_length (by omega),List.take_append_of_le_length (by rw[List.length_drop]; omega),List.getElem?_append_left h',<-List.getD_eq_getElem?_getD]
      exact cH _ _ w _ ki (Ic q h') w' e3
     ·have e:(olds++news).drop (q*3)=news.drop ((q-l.length)*3):=by
       have:q*3=olds.length+(q-l.length)*3:=by omega
       rw[this,<-List.drop_drop,List.drop_left]
      rw[e,List.getElem?_append_right h',<-List.getD_eq_getElem?_getD]
      exact Ej (q-l.length) (by omega) w' e3
    ·rw[Cm GB hq]
     trivial
  have Fb:=hH.app ki e3 hsame hbk
  have lR:=hwf.v2 yv hy hb
  refine hI.tH hd hwf hy hb rfl rfl dX (B':=λk=>β v1.id k\/k=blk) e0 (λk hk hn=>hsame k (Nat.lt_of_lt_of_le hk hI.below.size) (ux k hk hn)) (λz hz hl sD k hk=>?_) e3 (λz hz hl sD=>ext _ λhk j=>⟨V6 _ j (Xg hk),λe=>hI.apart z v1 blk hz hx hl BU (only z hz hl sD) e (Xg hk)⟩) (λk j hk hB _=>V6 k j (hB.elim (λh=>h) λe=>by subst e; exact Xg hk)) (λβ' Dr hown sE=>?_) (λβ' Dr hown sE e he ht=>?_)
  ·have hkb:k≠blk:=λe=>by
    subst e
    exact hI.apart z v1 k hz hx hl BU (only z hz hl sD) hk (Xg (cG hI hz hl hk))
   exact⟨hsame k (cG hI hz hl hk) hkb,λh=>h.elim (λh=>hI.apart z v1 k hz hx hl BU (only z hz hl sD) hk h) hkb⟩
  ·refine(aN cW).2 ?_
   rw[Dr]
   have OZ:cL (own c V (upd L i) β') w':=by
    intro q j hq
    rcases sE q j hq with⟨hB,_⟩|h|⟨z,hz,hl,sD,VM⟩
    ·exact⟨(Fb.tS hB).1,λv hv=>(Fb.tS hB).2 j v hv⟩
    ·obtain⟨⟨k1,k2⟩,k3⟩:=hI.old q j h
     have AD:=Nat.lt_of_lt_of_le k1 hI.below.size
     refine⟨Nat.lt_of_lt_of_le AD e0.2.2.2,λv hv=>k3 v ?_⟩
     rw[World.cell?_of_block (w:=w) (a:=⟨q,j,none⟩) (hsame q AD (ux q k1 k2))]at hv
     exact hv
    ·have AD:=cG hI hz hl VM
     have hkb:q≠blk:=λe=>by
      subst e
      exact hI.apart z v1 q hz hx hl BU (only z hz hl sD) VM (Xg AD)
     refine⟨Nat.lt_of_lt_of_le AD e0.2.2.2,λv hv=>(r9 hI hz hl VM).2.2 j v ?_⟩
     rw[World.cell?_of_block (w:=w) (a:=⟨q,j,none⟩) (hsame q AD hkb)]at hv
     exact hv
   refine⟨λq hq=>⟨?_,(Fb.tS hq).1,λo v hv=>(Fb.tS hq).2 o v hv⟩,?_⟩
   ·rcases hq with hq|rfl
    ·exact(hO.1 q hq).1
    ·exact fF
   ·rw[hs0,hc0]
    refine(Fb.box OZ).imp λw'' h=>⟨⟨blk,l.length+l'.length,cap'⟩,⟨rfl,hle,hmx,ac9⟩,?_,h⟩
    rw[lR]
    exact fO (by rw[hI.size]; exact hwf.sz _ lR)
  ·exactλw'' _=>hp.spec hwf he ht w'' _ trivial
 have fresh:∀(olds:List Value) (bs:Option Addr) (sc:Nat),olds.length=l.length*3->(∀u∈olds,iw u)->(∀i,i<l.length->au (l.getD i 0) w (aj true ((olds.drop (i*3)).take 3)))->hv=.slice bs l.length sc->sc<l.length+l'.length->(Builtin.firstCells ti.size l.length (.slice bs l.length sc)).run P w.drew=.ok olds.toArray w.drew ->
   Does P ⟨some d,.call ⟨.builtin .append,#[x,y],#[T,tx]⟩,ty,pos,aft,none⟩ a w (Inv c V A G (upd L i)):=by
  intro olds bs sc dB Vv Ic e hlt hold
  have hrun:=run_append_grow_src (P:=P) w T tx ty E ti zv ht.under hi hz bs l.length sc olds hold (a.eval y) l'.length news hS hlt (by omega) (growslice_fits hlt (by
   have:(l.length+l'.length)*ti.bytes<=1073741824*4096:=Nat.mul_le_mul hmax hby
   omega))
  have hge:=grownCap_ge w (l.length+l'.length) sc E
  have we:∀q,(Builtin.zeroCells zv.cells q).toList.length=q*3:=λq=>by rw[Array.length_toList,size_zeroCells,hzs]
  have hb0:Below w.heap.size w (w.drew.alloc (.cells (olds++news++(Builtin.zeroCells zv.cells (grownCap w (l.length+l'.length) sc E-(l.length+l'.length))).toList).toArray E)):=Below.alloc (Below.drew (Below.refl _ _)) (Nat.le_refl _) _
  refine close olds (w.drew.alloc (.cells (olds++news++(Builtin.zeroCells zv.cells (grownCap w (l.length+l'.length) sc E-(l.length+l'.length))).toList).toArray E)) w.heap.size (grownCap w (l.length+l'.length) sc E) _ E dB Ic (heap_alloc_new w.drew _) ?_ hge (grownCap_le_maxLen w (l.length+l'.length) sc E (by unfold maxLen; omega)) ?_ ?_ (.inr λe he=>Nat.ne_of_lt (Bk.uQ (hH.2.2 e he))) (.inl hI.below.size) ⟨hb0.os,hb0.tape,hb0.output,hb0.size⟩ (λk hk _=>hb0.block k hk) (λh=>absurd h (Nat.lt_irrefl _)) ?_
  ·rw[List.length_append,List.length_append,dB,ql,we,<-Nat.add_mul,<-Nat.add_mul]
   exact Nat.mul_le_mul_right _ (by omega)
  ·intro u hu
   rcases List.mem_append.1 hu with hu|hu
   ·rcases List.mem_append.1 hu with hu|hu
    ·exact Vv u hu
    ·exact(uy u hu).1
   ·exact iz RT _ u hu
  ·rw[<-show(olds++news).length=(l.length+l'.length)*3 by rw[List.length_append,dB,ql,Nat.add_mul],List.take_left]
  ·rw[QW,e,hrun]
   congr 3
   apply Array.ext'
   simp
 rcases YJ with⟨e,e2⟩|⟨r,e,vF,hrc,hrm,hme⟩
 ·subst e2
  exact fresh [] none 0 rfl (λu hu=>by cases hu) (λi hi=>absurd hi (Nat.not_lt_zero _)) e (by omega) (run_firstCells_none w.drew ti.size 0 0 0)
 ·obtain⟨cs,T',g1,g2,g3,g4⟩:=hH.2.2 _ hme
  have g1:w.heap[r.b]?=some (.cells cs.toArray T' (0,0)):=g1
  have g2:(bq l r.cap).length*3<=cs.length:=g2
  rw[kD,<-vF,show max r.n r.cap=r.cap by omega]at g2
  have hl3:l.length*3<=cs.length:=by omega
  have dB:(cs.take (l.length*3)).length=l.length*3:=by rw[List.length_take]; omega
  have Ic:∀i,i<l.length->au (l.getD i 0) w (aj true (((cs.take (l.length*3)).drop (i*3)).take 3)):=λi hi=>by
   have:=g4 i _ (fq hi)
   have this:au (l.getD i 0) w (aj true ((cs.drop (i*3)).take 3)):=this
   rw[List.drop_take,List.take_take,show min 3 (l.length*3-i*3)=3 by omega]
   exact this
  have hbβ:β v1.id r.b:=(hH.1 _).2 ⟨_,hme,rfl⟩
  by_cases hroom:l.length+l'.length<=r.cap
  ·have hsome:∀j,j<news.length->(w.cell? ⟨r.b,0+l.length*ti.size+j,none⟩).isSome=true:=by
    intro j hj
    simp only[World.cell?,g1]
    rw[List.getElem?_toArray,List.getElem?_eq_getElem (by rw[hsz]; omega)]
    rfl
   have hfz:∀j,j<news.length->w.frozen? ⟨r.b,0+l.length*ti.size+j,none⟩=false:=by
    intro j hj
    simp[World.frozen?,g1]
   have hrun:=run_append_room_src (P:=P) w T tx ty E ti ht.under hi r.b 0 l.length r.cap (a.eval y) l'.length news hS hroom hsome hfz
   have gH:w.setCells r.b (0+l.length*ti.size) news=w.setRow r.b (cs.take (l.length*3)++news++cs.drop (l.length*3+news.length)).toArray:=by
    have r1:=run_storeCells_cells (P:=P) r.b (0+l.length*ti.size) news 0 w (by simpa using hsome) (by simpa using hfz) λu hu=>(uy u hu).2
    have r2:=run_storeCells_at P r.b (0+l.length*ti.size) T' news 0 cs.toArray w g1 (by simp[hsz]; omega) λu hu=>(uy u hu).2
    rw[r1]at r2
    injection r2 with _ r2
    simpa [hsz] using r2
   rw[gH]at hrun
   refine close (cs.take (l.length*3)) _ r.b r.cap (cs.take (l.length*3)++news++cs.drop (l.length*3+news.length)) T' dB Ic (setRow_heap w _ _ _ _ _ g1) ?_ hroom hrm ?_ ?_ (.inl ⟨r,e,rfl⟩) (hO.1 _ hbβ).1 ⟨rfl,rfl,rfl,Nat.le_of_eq size_setRow.symm⟩ (λk _ hne=>aE hne) (λ_=>hbβ) ?_
   ·simp only[List.length_append,List.length_take,List.length_drop,ql]; omega
   ·intro u hu
    simp only[List.mem_append]at hu
    rcases hu with(hu|hu)|hu
    ·exact g3 u (List.mem_of_mem_take hu)
    ·exact(uy u hu).1
    ·exact g3 u (List.mem_of_mem_drop hu)
   ·rw[<-show(cs.take (l.length*3)++news).length=(l.length+l'.length)*3 by rw[List.length_append,dB,ql,Nat.add_mul],List.take_left]
   ·rw[QW,e,show r.hdr=.slice (some ⟨r.b,0,none⟩) l.length r.cap by unfold ct.hdr; rw[vF]]
    exact hrun
  ·refine fresh (cs.take (l.length*3)) (some ⟨r.b,0,none⟩) r.cap dB (λu hu=>g3 u (List.mem_of_mem_take hu)) Ic (by rw[e]; unfold ct.hdr; rw[vF]) (by omega) ?_
   rw[hsz]
   refine run_firstCells_some w.drew 3 l.length ⟨r.b,0,none⟩ l.length r.cap (cs.take (l.length*3)) dB λj u hj=>?_
   rw[Addr.add_mid]
   show w.cell? ⟨r.b,0+j,none⟩=some u
   rw[Nat.zero_add]
   simp only[World.cell?,g1]
   rw[List.getElem?_take]at hj
   split at hj
   ·simpa using hj
   ·cases hj
theorem bu.SK (hI:bu c V A G L β a w) (hd:qc ms i L) (hwf:nR c.N ops V A G i o) {yv:Vr} (hy:yv∈V) (hb:yv.born=some i) (cW:yv.kd=.obj) (hst:eU o.op=false) (LV:iY o.op=false) (dX:(A.all λp=>p.var != yv.id||p.tag.any λj=>(ms.getD j 0).testBit i)=true)
  {v':Value} {w':World} {B':Nat->Prop} {Hn:List Bk} (e0:w'.os=w.os/\w'.tape=w.tape/\w'.output=w.output/\w.heap.size<=w'.heap.size)
  (e1:∀k,k<c.w0.heap.size->¬c.kr k->w'.heap[k]?=w.heap[k]?)
  (e2:∀z,z∈V->live L z=true->z.dead≠some i->∀k,β z.id k->w'.heap[k]?=w.heap[k]?/\¬B' k)
  (e3:Ext (own c V L β) w w') (e4:∀z,z∈V->live L z=true->z.dead≠some i->Ext (minus (own c V L β) (β z.id)) w w')
  (e5:∀k j,k<w.heap.size->B' k->own c V L β k j) (hnew:∀k,B' k->mine c k) (Fb:dn B' w' Hn) (hs0:yv.st=[]) (hrel:∀w'',dn B' w'' Hn->yv.c0 B' w'' v') (hG:∀e,e∈G->e.tag=some i->∀w,e.p w v'):
  Inv c V A G (upd L i) (a.put o.dst v') w':=by
 have lR:=hwf.v2 yv hy hb
 refine hI.tH hd hwf hy hb hst LV dX (B':=B') e0 e1 e2 e3 e4 (λk j hk hB _=>e5 k j hk hB) (λβ' Dr hown sE=>?_) (λβ' Dr hown sE e he ht=>λw'' _=>hG e he ht w'')
 refine(aN cW).2 ?_
 rw[Dr]
 have OZ:cL (own c V (upd L i) β') w':=by
  intro q j hq
  rcases sE q j hq with⟨hB,_⟩|h|⟨z,hz,hl,sD,VM⟩
  ·exact⟨(Fb.tS hB).1,λv hv=>(Fb.tS hB).2 j v hv⟩
  ·obtain⟨⟨k1,k2⟩,k3⟩:=hI.old q j h
   have AD:=Nat.lt_of_lt_of_le k1 hI.below.size
   refine⟨Nat.lt_of_lt_of_le AD e0.2.2.2,λv hv=>k3 v ?_⟩
   rw[World.cell?_of_block (w:=w) (a:=⟨q,j,none⟩) (e1 q k1 k2)]at hv
   exact hv
  ·have AD:=cG hI hz hl VM
   refine⟨Nat.lt_of_lt_of_le AD e0.2.2.2,λv hv=>(r9 hI hz hl VM).2.2 j v ?_⟩
   rw[World.cell?_of_block (w:=w) (a:=⟨q,j,none⟩) (e2 z hz hl sD q VM).1]at hv
   exact hv
 refine⟨λq hq=>⟨hnew q hq,(Fb.tS hq).1,λo v hv=>(Fb.tS hq).2 o v hv⟩,?_⟩
 rw[hs0]
 refine(Fb.box OZ).imp λw'' h=>?_
 show yv.c0 B' w'' (sl (a.put o.dst v') yv.slot)
 rw[lR,fO (by rw[hI.size]; exact hwf.sz _ lR)]
 exact hrel w'' h
def P1 (sz:Nat) (agg:Bool) (n:Nat) (it:It):Rel:=λB w v=>∃g:Nat,True/\v=.slice (some ⟨g,0,none⟩) n n/\dn B w [⟨g,sz,agg,List.replicate n it⟩]
variable {sz n:Nat}
theorem Fw {z:List Value} {i:Nat} (hz:z.length=sz) (hi:i<n):(((madeCells z.toArray (n*sz)).toList.drop (i*sz)).take sz)=z:=by
 have hle:(i+1)*sz<=n*sz:=Nat.mul_le_mul_right _ hi
 rw[Nat.add_mul,Nat.one_mul]at hle
 apply List.ext_getElem?
 intro j
 rw[List.getElem?_take]
 split
 ·rename_i hj
  rw[List.getElem?_drop,Array.getElem?_toList]
  have hlt:i*sz+j<(madeCells z.toArray (n*sz)).size:=by simp[madeCells]; omega
  rw[Array.getElem?_eq_getElem hlt]
  simp only[madeCells,Array.getElem_map,Array.getElem_range,List.size_toArray,hz]
  rw[show(i*sz+j)%sz=j by rw[Nat.mul_comm,Nat.mul_add_mod,Nat.mod_eq_of_lt hj]]
  have hj2:j<z.length:=by omega
  rw[getElem!_pos z.toArray j (by simpa using hj2),List.getElem?_eq_getElem hj2]
  simp
 ·rename_i hj
  rw[List.getElem?_eq_none (by omega)]
variable {agg:Bool} {it:It}
theorem A7 {zv:Value} {z:List Value} (k2:Nat) (hk2:V[k2]?=some yv) (hb:yv.born=some i) (cW:yv.kd=.obj) (hc0:yv.c0=P1 sz agg n it) (hs0:yv.st=[]) (dX:(A.all λp=>p.var != yv.id||p.tag.any λj=>(ms.getD j 0).testBit i)=true)
  (h1:Has ms G i x (pI n)) (h2:Has ms G i y (pI n)) (ht:P.underlying T=some (.slice E)) (hi:(P.info? E).map (λi=>(i.zero,i.size,decide (i.bytes<=4096)))=some (some zv,sz,true)) (zB:zv.cells=z.toArray) (we:z.length=sz) (hs:0<sz) (hzu:∀u∈z,iw u) (hit:∀w,it.p w (aj agg z)) (hn:n<=1000000) (hp:Post G i cY):
  OpOk P ops ms c V A G i ⟨some d,.makeSlice T x y,ty,pos,aft,none⟩:=by
 refine gI (λL β a w hI hd hwf=>?_) rfl
 have hy:=List.mem_of_getElem? hk2
 obtain⟨ti,h3,hzz⟩:=Option.map_eq_some_iff.1 hi
 simp only[Prod.mk.injEq,decide_eq_true_eq]at hzz
 obtain⟨hz,hsz,hby⟩:=hzz
 have ex:a.eval x=.int .i64 n:=(h1.spec hI hd).out
 have ey:a.eval y=.int .i64 n:=(h2.spec hI hd).out
 have hbytes:(ti.bytes:Int)*(n:Int)<=281474976710656:=by
  have:ti.bytes*n<=4096*1000000:=Nat.mul_le_mul hby hn
  have:((ti.bytes*n:Nat):Int)<=4096000000:=by omega
  rw[Int.natCast_mul]at this
  omega
 have hrun:=run_make (P:=P) w T E ti zv ht h3 hz .i64 .i64 (n:Int) (n:Int) (by omega) (Int.le_refl _) hbytes (by omega)
 rw[hsz,zB,Int.toNat_natCast]at hrun
 have hcell:madeCells z.toArray (n*sz)=((madeCells z.toArray (n*sz)).toList).toArray:=by simp
 rw[hcell]at hrun
 have hb0:Below w.heap.size w (w.alloc (.cells ((madeCells z.toArray (n*sz)).toList).toArray E)):=Below.alloc (Below.refl _ _) (Nat.le_refl _) _
 refine dH (v:=.slice (some ⟨w.heap.size,0,none⟩) n n) (w':=w.alloc (.cells ((madeCells z.toArray (n*sz)).toList).toArray E)) ?_ ?_
 ·show(do pure (Next.value (<-Instr.makeSlice T (a.eval x) (a.eval y)))).run P w=_
  rw[ex,ey,Sem.run_bind,hrun]
  rfl
 ·refine hI.SK hd hwf hy hb cW rfl rfl dX (B':=λk=>k=w.heap.size) (Hn:=[⟨w.heap.size,sz,agg,List.replicate n it⟩]) ⟨hb0.os,hb0.tape,hb0.output,hb0.size⟩ (λk hk _=>hb0.block k (Nat.lt_of_lt_of_le hk hI.below.size)) (λz hz hl _ k hk=>⟨hb0.block k (cG hI hz hl hk),λe=>absurd e (Nat.ne_of_lt (cG hI hz hl hk))⟩) (Ext.bC hb0) (λz hz hl _=>Ext.bC hb0) (λk j hk e=>absurd e (Nat.ne_of_lt hk)) (λk e=>.inl (by rw[e]; exact hI.below.size)) ⟨λk=>?_,List.pairwise_singleton _ _,λe he=>?_⟩ hs0 (λw'' h=>by rw[hc0]; exact⟨_,trivial,rfl,h⟩) (λe he ht' w''=>hp.spec hwf he ht' w'' _ trivial)
  ·exact⟨λe=>⟨_,List.mem_singleton.2 rfl,e.symm⟩,λ⟨e,he,hk⟩=>by rw[List.mem_singleton.1 he]at hk; exact hk.symm⟩
  ·rw[List.mem_singleton.1 he]
   refine⟨_,E,heap_alloc_new w _,?_,λv hv=>?_,λq it' hq=>?_⟩
   ·show(List.replicate n it).length*sz<=_
    rw[List.length_replicate,Array.length_toList]
    simp[madeCells]
   ·obtain⟨q,hq⟩:=List.mem_iff_getElem?.1 hv
    rw[Array.getElem?_toList]at hq
    simp only[madeCells,Array.getElem?_map,Option.map_eq_some_iff]at hq
    obtain⟨q',_,rfl⟩:=hq
    have hlt:q'%z.toArray.size<z.toArray.size:=Nat.mod_lt _ (by simp; omega)
    rw[getElem!_pos z.toArray _ hlt]
    exact hzu _ (by simp)
   ·have hq:(List.replicate n it)[q]?=some it':=hq
    have hqn:q<n:=by
     rcases Nat.lt_or_ge q n with h|h
     ·exact h
     ·rw[List.getElem?_eq_none (by simpa using h)]at hq; cases hq
    rw[List.eq_of_mem_replicate (List.mem_of_getElem? hq)]
    show it.p _ (aj agg (((madeCells z.toArray (n*sz)).toList.drop (q*sz)).take sz))
    rw[Fw we hqn]
    exact hit _
theorem Rj {xt:TypeId} {k:IntKind} {a b:Int} (h:b≠0) (w:World):(Go.binOp .rem xt (.int k a) (.int k b)).run P w=.ok (.int k (a.tmod b)) w:=by
 have e:Go.binOp .rem xt (.int k a) (.int k b)=Op.intDiv .rem k a b:=by
  show(if k≠k then _ else _)=_
  rw[if_neg (by simp)]
 rw[e]
 unfold Op.intDiv
 rw[if_neg h]
 rfl
variable {id s n0:Nat}
theorem Inv.T9 {Λ:Type} {C:Λ->Prop} {hd:Λ->Value} {Hl:Λ->List Bk} {T:Nat} {ag:Bool} (h:Inv c V [] G none_ a w) (hk:V[n0]?=some ⟨id,s,none,none,.obj,T,n,ag,λB w v=>∃l,C l/\v=hd l/\dn B w (Hl l),[]⟩) (hinj:∀l l',hd l=hd l'->l=l')
  (hu:(V.filter λy=>y.id==id).length=1):∃l,C l/\Inv c (V.set n0 (cX id s (Hl l))) [] (⟨none,none,s,bg (hd l)⟩::G) none_ a w:=by
 obtain⟨β,h⟩:=h
 have hx:=List.mem_of_getElem? hk
 obtain⟨h1,h2⟩:=(aN rfl).1 (h.var _ hx rfl)
 obtain⟨l,k1,k2,k3⟩:=h2.out
 refine⟨l,k1,β,h.size,h.defers,h.below,h.old,?_,?_,(λp hp=>by cases hp),?_⟩
 all_goals
  have OW:n0<V.length:=by
   rcases Nat.lt_or_ge n0 V.length with h'|h'
   ·exact h'
   ·rw[List.getElem?_eq_none h']at hk; cases hk
  have hsub:∀y,y∈V.set n0 (cX id s (Hl l))->y=cX id s (Hl l)\/(y∈V/\y.id≠id):=λy hy=>by
   obtain⟨j,hj⟩:=List.mem_iff_getElem?.1 hy
   by_cases yh:j=n0
   ·subst yh
    rw[List.getElem?_set_self OW]at hj
    exact .inl (Option.some.inj hj).symm
   ·rw[List.getElem?_set_ne (Ne.symm yh)]at hj
    have ik:=List.mem_of_getElem? hj
    by_cases hid:y.id=id
    ·exfalso
     have e:=cB hu ik hx (by simpa using hid) (by simp)
     subst e
     have hge:((V.filter λy=>y.id==id).length)>=2:=by
      have qO:[(⟨id,s,none,none,.obj,T,n,ag,λB w v=>∃l,C l/\v=hd l/\dn B w (Hl l),[]⟩:Vr),⟨id,s,none,none,.obj,T,n,ag,λB w v=>∃l,C l/\v=hd l/\dn B w (Hl l),[]⟩].Sublist V:=by
       rcases Nat.lt_or_ge j n0 with hlt|hge
       ·exact oU hj hk hlt
       ·exact oU hk hj (by omega)
      have:=(qO.filter λy=>y.id==id).length_le
      simpa using this
     omega
    ·exact .inr ⟨ik,hid⟩
  have eo:∀k o,own c (V.set n0 (cX id s (Hl l))) none_ β k o->own c V none_ β k o:=by
   rintro k o (h1|⟨y,hy,h1,h2,h3⟩)
   ·exact .inl h1
   ·rcases hsub y hy with rfl|⟨hy,_⟩
    ·exact .inr ⟨_,hx,rfl,h2,Nat.zero_le _⟩
    ·exact .inr ⟨y,hy,h1,h2,h3⟩
 ·intro y hy hl
  rcases hsub y hy with rfl|⟨hy,_⟩
  ·refine(aN rfl).2 ⟨h1,λw'' he=>?_⟩
   obtain⟨l',_,e2,e3⟩:=h2 w'' (he.mono' λk o hh=>⟨eo k o hh.1,hh.2⟩)
   have e2:sl a s=hd l':=e2
   have k2:sl a s=hd l:=k2
   have:l'=l:=hinj _ _ (e2.symm.trans k2)
   subst this
   exact e3
  ·exact(h.var y hy hl).keep rfl rfl (λ_ _=>rfl) (Nat.le_refl _) (λF hF=>hF.sub λk o _=>eo k o) (λF hF=>hF.sub λk o _ hh=>⟨eo k o hh.1,hh.2⟩) rfl
 ·intro y z g hy hz h1 h2 hne
  rcases hsub y hy with rfl|⟨hy,h5⟩<;>rcases hsub z hz with rfl|⟨hz,h7⟩
  ·exact absurd rfl hne
  ·have:=h.apart _ z g hx hz rfl h2 (λe=>h7 e.symm)
   exact this
  ·have:=h.apart y _ g hy hx h1 rfl h5
   exact this
  ·exact h.apart y z g hy hz h1 h2 hne
 ·intro e he ho hf
  rcases List.mem_cons.1 he with rfl|he
  ·exactλ_ _=>k2
  ·exact(h.jM e he ho hf).sub λk o _ hh=>eo k o hh
theorem Dh (r r':ct) (h:r.hdr=r'.hdr):r=r':=by
 unfold ct.hdr at h
 injection h with h1 h2 h3
 injection h1 with h1
 injection h1 with h1
 cases r
 cases r'
 simp only at h1 h2 h3
 rw[h1,h2,h3]
theorem Inv.KD (h:Inv c V [] G none_ a w) (n0:Nat) (hk:V[n0]?=some ⟨id,s,none,none,.obj,0,0,false,Sz H hv l l',[]⟩) (hu:(V.filter λy=>y.id==id).length=1):
  ∃r':ct,Bn H hv l l' r'/\Inv c (V.set n0 (cX id s (appH H r'.b (bq (l++l') r'.cap)))) [] (⟨none,none,s,bg r'.hdr⟩::G) none_ a w:=
 Inv.T9 (C:=Bn H hv l l') (hd:=ct.hdr) (Hl:=λr'=>appH H r'.b (bq (l++l') r'.cap)) h hk Dh hu
theorem Inv.PU (h:Inv c V [] G none_ a w) (n0:Nat) (hk:V[n0]?=some ⟨id,s,none,none,.obj,0,0,false,P1 sz agg n it,[]⟩) (hu:(V.filter λy=>y.id==id).length=1):
  ∃g:Nat,True/\Inv c (V.set n0 (cX id s [⟨g,sz,agg,List.replicate n it⟩])) [] (⟨none,none,s,bg (.slice (some ⟨g,0,none⟩) n n)⟩::G) none_ a w:=
 Inv.T9 (C:=λ_:Nat=>True) (hd:=λg=>.slice (some ⟨g,0,none⟩) n n) (Hl:=λg=>[⟨g,sz,agg,List.replicate n it⟩]) h hk (λg g' h=>by
  injection h with h
  injection h with h
  injection h) hu
theorem Inv.Ui (id' s':Nat) (h:Inv c V [] G none_ a w) (hk:V[n0]?=some (cX id s H)) (hf:(V.all λy=>y.id != id')=true) (hu:((V.set n0 (cX id' s' H)).all λy=>y.id != id)=true):Inv c (V.set n0 (cX id' s' H)) [] G none_ a w:=by
 obtain⟨β,h⟩:=h
 let β':Nat->Nat->Prop:=λs=>if s=id' then β id else β s
 have hx:=List.mem_of_getElem? hk
 have hsub:∀y,y∈V.set n0 (cX id' s' H)->y=cX id' s' H\/(y∈V/\y.id≠id'/\y.id≠id):=λy hy=>by
  rw[List.all_eq_true]at hf hu
  rcases List.mem_or_eq_of_mem_set hy with h'|h'
  ·exact .inr ⟨h',by simpa using hf y h',by simpa using hu y hy⟩
  ·exact .inl h'
 have bx:β' id'=β id:=if_pos rfl
 have bo:∀y:Vr,y.id≠id'->β' y.id=β y.id:=λy hy=>if_neg hy
 have eo:∀k o,own c (V.set n0 (cX id' s' H)) none_ β' k o->own c V none_ β k o:=by
  rintro k o (h1|⟨y,hy,h1,h2,h3⟩)
  ·exact .inl h1
  ·rcases hsub y hy with rfl|⟨hy,h4,_⟩
   ·exact .inr ⟨_,hx,h1,bx▸h2,h3⟩
   ·rw[bo y h4]at h2
    exact .inr ⟨y,hy,h1,h2,h3⟩
 refine⟨β',h.size,h.defers,h.below,h.old,λy hy hl=>?_,λy z g hy hz h1 h2 hne=>?_,(λp hp=>by cases hp),λe he h1 h2=>(h.jM e he h1 h2).sub λk o _=>eo k o⟩
 ·rcases hsub y hy with rfl|⟨hy,h4,_⟩
  ·obtain⟨k1,k2⟩:=(aN rfl).1 (h.var _ hx hl)
   refine(aN rfl).2 ?_
   show yI _ c none_ a w _ (β' id')
   rw[bx]
   exact⟨k1,k2.sub λk o _ hh=>⟨eo k o hh.1,hh.2⟩⟩
  ·exact(h.var y hy hl).keep rfl (bo y h4) (λ_ _=>rfl) (Nat.le_refl _) (λF hF=>hF.sub λk o _=>eo k o) (λF hF=>hF.sub λk o _ hh=>⟨eo k o hh.1,hh.2⟩) rfl
 ·rcases hsub y hy with rfl|⟨hy,h4,h5⟩<;>rcases hsub z hz with rfl|⟨hz,h6,h7⟩
  ·exact absurd rfl hne
  ·intro k1 k2
   have k1:β' id' g:=k1
   rw[bx]at k1
   rw[bo z h6]at k2
   exact h.apart _ z g hx hz rfl h2 (Ne.symm h7) k1 k2
  ·intro k1 k2
   have k2:β' id' g:=k2
   rw[bx]at k2
   rw[bo y h4]at k1
   exact h.apart y _ g hy hx h1 rfl h5 k1 k2
  ·rw[bo y h4,bo z h6]
   exact h.apart y z g hy hz h1 h2 hne
theorem Bg {f:FuncId} {ts:Array TypeId} {ops:Array Oper} (hf:aR P f) (h:Inv c V [] G none_ a w) (hk:V[n0]?=some (cX id s H)) (h1:Has [0] G 0 x (bg hv)) (hr:∀B w,dn B w H->aD l w hv)
  (hc:∀(M:Nat->Nat->Prop) w v1,cL M w->aO M (λw=>aD l w v1) w->Calls P f #[v1] w (CI l w)) (hd':decide (d<c.N)=true) (hV:(V.all λy=>(y.slot != d)&&(y.born.isNone&&y.dead.isNone))=true) (hu:(V.filter λy=>y.id==id).length=1) (hG:(G.all λe=>e.slot != d)=true):
  bV P ops ⟨some d,.call ⟨.value (.func f),#[x],ts⟩,ty,pos,aft,none⟩ a w (λa' w'=>∃r:ct,(r.n=l.length/\r.n<=r.cap/\r.cap<=maxLen/\∀e,e∈H->e.b≠r.b)/\Inv c (V.set n0 (cX id s (appH H r.b (bq l r.cap)))) [] (⟨none,none,d,bg r.hdr⟩::G) none_ a' w'):=by
 obtain⟨β,hI⟩:=h
 have hx:=List.mem_of_getElem? hk
 have hH:dn (β id) w H:=(hI.obj hk).1
 refine .of rfl (jX hf (Calls.mono (by
  rw[show(#[x]:Array Operand).map a.eval=#[a.eval x] by simp]
  refine hc (minus (own c V none_ β) (β id)) w _ (rP (aS hI)) λw' he=>?_
  have e1:a.eval x=hv:=(h1.spec hI oG).out
  rw[e1]
  exact hr (β id) w' (hH.keep (aS hI) (he.mono' λk o hk=>hk.1) λe hm=>he.block e.b (Bk.uQ (hH.2.2 e hm)) λo ho=>ho.2 ((hH.1 _).2 ⟨e,hm,rfl⟩))) ?_))
 rintro e w' ⟨r,rfl,hb,hrb,ho⟩
 refine⟨_,rfl,r,⟨ho.2.1,ho.2.2.1,ho.2.2.2.1,λe he=>Nat.ne_of_lt (Nat.lt_of_lt_of_le (Bk.uQ (hH.2.2 e he)) hrb)⟩,?_⟩
 have Fb:=hH.app (aS hI) (Ext.bC hb) (λk hk _=>hb.block k hk) ho.2.2.2.2
 have hV:∀y,y∈V->y.slot≠d/\live none_ y=true:=λy hy=>by
  rw[List.all_eq_true]at hV
  have:=hV y hy
  simp only[Bool.and_eq_true,bne_iff_ne]at this
  refine⟨this.1,?_⟩
  unfold live
  cases hb:y.born with
  |some j=>rw[hb]at this; cases this.2.1
  |none=>cases hd:y.dead with
   |some j=>rw[hd]at this; cases this.2.2
   |none=>rfl
 have hG:∀e,e∈G->e.slot≠d:=λe he=>by
  rw[List.all_eq_true]at hG
  simpa using hG e he
 have hd:=of_decide_eq_true hd'
 have OW:n0<V.length:=by
  rcases Nat.lt_or_ge n0 V.length with h'|h'
  ·exact h'
  ·rw[List.getElem?_eq_none h']at hk; cases hk
 have Ik:live none_ (cX id s H)=true:=rfl
 have hsub:∀y,y∈V.set n0 (cX id s (appH H r.b (bq l r.cap)))->y=cX id s (appH H r.b (bq l r.cap))\/(y∈V/\y.id≠id):=λy hy=>by
  obtain⟨j,hj⟩:=List.mem_iff_getElem?.1 hy
  by_cases yh:j=n0
  ·subst yh
   rw[List.getElem?_set_self OW]at hj
   exact .inl (Option.some.inj hj).symm
  ·rw[List.getElem?_set_ne (Ne.symm yh)]at hj
   have ik:=List.mem_of_getElem? hj
   by_cases hid:y.id=id
   ·exfalso
    have e:=cB hu ik hx (by simpa using hid) (by simp)
    subst e
    have h2:((V.filter λy=>y.id==id).length)>=2:=by
     have qO:[cX id s H,cX id s H].Sublist V:=by
      rcases Nat.lt_or_ge j n0 with hlt|hge
      ·exact oU hj hk hlt
      ·exact oU hk hj (by omega)
     have:=(qO.filter λy=>y.id==id).length_le
     simpa using this
    omega
   ·exact .inr ⟨ik,hid⟩
 let β':Nat->Nat->Prop:=λq=>if q=id then(λk=>β id k\/k=r.b)else β q
 have bx:β' id=λk=>β id k\/k=r.b:=if_pos rfl
 have bo:∀y:Vr,y.id≠id->β' y.id=β y.id:=λy hy=>if_neg hy
 have ob:∀k j,β id k->own c V none_ β k j:=λk j hk'=>.inr ⟨_,hx,Ik,hk',Nat.zero_le _⟩
 have e3:Ext (own c V none_ β) w w':=Ext.bC hb
 have hown:∀k j,k<w.heap.size->own c (V.set n0 (cX id s (appH H r.b (bq l r.cap)))) none_ β' k j->own c V none_ β k j:=by
  rintro k' j hk' (h1|⟨y,hy,h1,h2,h3⟩)
  ·exact .inl h1
  ·rcases hsub y hy with rfl|⟨ik,h4⟩
   ·have h2:β' id k':=h2
    rw[bx]at h2
    exact h2.elim (ob k' j) λe=>by omega
   ·rw[bo y h4]at h2
    exact .inr ⟨y,ik,h1,h2,h3⟩
 have ki:cL (own c (V.set n0 (cX id s (appH H r.b (bq l r.cap)))) none_ β') w':=by
  rintro k j hk'
  rcases Nat.lt_or_ge k w.heap.size with h'|h'
  ·obtain⟨h1,h2⟩:=aS hI k j (hown k j h' hk')
   refine⟨Nat.lt_of_lt_of_le h1 hb.size,λu gB=>h2 u ?_⟩
   rw[World.cell?_of_block (w:=w) (a:=⟨k,j,none⟩) (hb.block k h')]at gB
   exact gB
  ·rcases hk' with h1|⟨y,hy,h1,h2,h3⟩
   ·exact absurd (tC hI (.inl h1)) (by omega)
   ·rcases hsub y hy with rfl|⟨ik,h4⟩
    ·have h2:β' id k:=h2
     rw[bx]at h2
     exact⟨(Fb.tS h2).1,λu hu=>(Fb.tS h2).2 j u hu⟩
    ·rw[bo y h4]at h2
     exact absurd (cG hI ik h1 h2) (by omega)
 have sd:∀v s,s≠d->sl (a.put (some d) v) s=sl a s:=λv s hs=>cz λe=>hs (Option.some.inj e).symm
 refine⟨β',by rw[iH]; exact hI.size,by rw[put_defers]; exact hI.defers,hI.below.trans (dN.bC hb),hI.oa λk hk hn=>hb.block k (Nat.lt_of_lt_of_le hk hI.below.size),λy hy _=>?_,λy z g hy hz _ _ hne=>?_,(λp hp=>by cases hp),λe he yl hf'=>?_⟩
 ·rcases hsub y hy with rfl|⟨ik,h4⟩
  ·refine(aN rfl).2 ?_
   show yI _ c none_ _ w' _ (β' id)
   rw[bx]
   refine⟨λk hk'=>⟨?_,(Fb.tS hk').1,λo v hv=>(Fb.tS hk').2 o v hv⟩,Fb.box ki⟩
   exact hk'.elim (λhk'=>(r9 hI hx Ik hk').1) λe=>.inl (by subst e; exact Nat.le_trans hI.below.size hrb)
  ·exact(hI.var y ik (hV y ik).2).keep (sd _ _ (hV y ik).1) (bo y h4) (λg hg=>hb.block g (cG hI ik (hV y ik).2 hg)) hb.size (λF hF=>gF e3 hown hF) (λF hF=>by
    refine gF (M:=minus (own c V none_ β) (β y.id)) (Ext.bC hb) ?_ hF
    rintro k j hk' ⟨h1,h2⟩
    exact⟨hown k j hk' h1,h2⟩) rfl
 ·rcases hsub y hy with rfl|⟨ik,h4⟩<;>rcases hsub z hz with rfl|⟨Xf,h6⟩
  ·exact absurd rfl hne
  ·intro h1 h2
   have h1:β' id g:=h1
   rw[bx]at h1
   rw[bo z h6]at h2
   exact h1.elim (λh1=>hI.apart _ z g hx Xf Ik (hV z Xf).2 hne h1 h2) λe=>absurd (cG hI Xf (hV z Xf).2 h2) (by omega)
  ·intro h1 h2
   have h2:β' id g:=h2
   rw[bx]at h2
   rw[bo y h4]at h1
   exact h2.elim (λh2=>hI.apart y _ g ik hx (hV y ik).2 Ik hne h1 h2) λe=>absurd (cG hI ik (hV y ik).2 h1) (by omega)
  ·rw[bo y h4,bo z h6]
   exact hI.apart y z g ik Xf (hV y ik).2 (hV z Xf).2 hne
 ·rcases List.mem_cons.1 he with rfl|he
  ·refineλw'' _=>?_
   show sl (a.put (some d) _) d=_
   exact fO (by rw[hI.size]; exact hd)
  ·show aO _ (λw=>e.p w (sl (a.put (some d) _) e.slot)) w'
   rw[sd _ _ (hG e he)]
   exact gF e3 hown (hI.jM e he yl hf')
variable {fn:Func}{N id s n0:Nat} {w0:World} {M:Nat->Nat->Prop} {H:List Bk} {r:ResultVar} {hd:Value} {p:Pred}
theorem RA (hI:Inv ⟨N,w0,M,λ_=>False⟩ V [] G none_ a w) (hr:fn.results=#[r]) (hk:V[n0]?=some (cX id s H)) (h:dW P V G r (bg hd)) (hF:∀B w,dn B w H->p w hd):bodyPost P fn (bH M p w0) .ret a w:=by
 obtain⟨β,hI⟩:=hI
 obtain⟨v,k1,k2⟩:=h.run hI
 have e:v=hd:=k2.out
 subst e
 refine iM hI (v:=v) ?_ ⟨v,rfl,FH hI hk hF,hI.below.below (λ_ h=>h)⟩
 rw[eD,hr]
 simp[k1]
theorem RB {r2:ResultVar} {q:Pred} (hI:Inv ⟨N,w0,M,λ_=>False⟩ V [] G none_ a w) (hr:fn.results=#[r,r2]) (hk:V[n0]?=some (cX id s H)) (h:dW P V G r (bg hd)) (h2:dW P V G r2 q) (hF:∀B w,dn B w H->p w hd):bodyPost P fn (bH M (cN p q) w0) .ret a w:=by
 obtain⟨β,hI⟩:=hI
 obtain⟨v,k1,k2⟩:=h.run hI
 obtain⟨v2,j1,j2⟩:=h2.run hI
 have e:v=hd:=k2.out
 subst e
 refine iM hI (v:=.tuple #[v,v2]) ?_ ⟨_,rfl,λw' he=>⟨v,v2,rfl,FH hI hk hF w' he,iL j2 w' he⟩,hI.below.below (λ_ h=>h)⟩
 rw[eD,hr]
 simp[k1,j1,Sem.run_bind]
end
end Wx
