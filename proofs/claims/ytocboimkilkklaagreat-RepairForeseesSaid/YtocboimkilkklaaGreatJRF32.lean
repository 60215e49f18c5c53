import Derived.Test.YtocboimkilkklaaGreatJRF30
namespace Wx
open Go Go.RowKit
set_option linter.unusedVariables false
def qR (sz m:Nat) (ag:Bool) (E:TypeId) (f:Nat->Pred) (s:Value) (X:Nat->Prop) (w:World):Prop:=
 (s=.slice none 0 0/\m=0/\∀k,¬X k) \/
 ∃(bb cap:Nat) (cur:List Value),s=.slice (some ⟨bb,0,none⟩) m cap/\(∀k,X k↔k=bb)/\w.heap[bb]?=some (.cells cur.toArray E (0,0))/\cur.length=cap*sz/\m<=cap/\cap<=maxLen/\(∀u∈cur,fq u)/\∀i,i<m->f i w (aA ag ((cur.drop (i*sz)).take sz))
section
variable {P:Program} {c:eL} {V:List Vr} {G:List bI} {a:Act} {w:World}{sz m:Nat} {ag:Bool} {E:TypeId} {f:Nat->Pred} {s:Value} {X:Nat->Prop} {M:Nat->Nat->Prop}
theorem qR.keep {w w':World} (h:qR sz m ag E f s X w) (hn:∀i,aB (f i)) (hM:dc M w) (he:Ext M w w') (hb:∀k,X k->w'.heap[k]?=w.heap[k]?):qR sz m ag E f s X w':=by
 refine h.imp (λh=>h) ?_
 rintro⟨bb,cap,cur,k1,k2,k3,k4,k5,k6,k7,k8⟩
 exact⟨bb,cap,cur,k1,k2,(hb bb ((k2 bb).2 rfl)).trans k3,k4,k5,k6,k7,λi hi=>hn i M w _ hM (k8 i hi) w' he⟩
theorem BF {olds news:List Value} {i:Nat} (h:olds.length=m*sz) (hi:m<=i):((olds++news).drop (i*sz)).take sz=(news.drop ((i-m)*sz)).take sz:=by
 have hle:=Nat.mul_le_mul_right sz hi
 rw[List.drop_append,List.drop_eq_nil_of_le (by rw[h]; exact hle),List.nil_append,h,Nat.sub_mul]
variable {T tx:TypeId} {yv:Value} {ty:TypeId}
theorem ud {n:Nat} {g:Nat->Pred} (Lj:dc M w) (OC:∀k,X k->∀o,M k o) (c5:qR sz m ag E f s X w) (hy:aL M (λw=>dK sz ag n g w yv) w) (ht:Dn P T tx E sz) (hagg:ag=false->sz=1) (hfit:∀i,Fits sz ag (g i)) (hn:∀i,aB (f i)) (hng:∀i,aB (g i)) (zy:0<n) (hmax:m+n<=1073741824):
  ∃(w':World) (X':Nat->Prop) (s':Value),(Builtin.append_ #[T,tx] ty #[s,yv]).run P w=.ok s' w'/\er X w w'/\(∀k,X' k->X k\/w.heap.size<=k)/\qR sz (m+n) ag E (λi=>if i<m then f i else g (i-m)) s' X' w':=by
 obtain⟨A2,gh,news,TT,U8,hc2,hnl,IF,hnc,hnf⟩:=Bv hagg (λk _=>hfit k) hy
 obtain⟨E',Vn⟩:=ht.src
 obtain⟨ti,zv,hi,hsz,hz,hzs,VG,hby⟩:=ht.info
 subst hsz
 have hS:Src P ti.size tx yv n news w:=by
  rw[TT]
  exact J7 Vn hnl (λu hu=>(IF u hu).2) λh=>by
   obtain⟨b,o,e,hc⟩:=hnc h
   exact⟨b,o,e,λj u hj=>(hc j u hj).1⟩
 have fresh:∀(bs:Option Addr) (sc:Nat) (olds:List Value),s=.slice bs m sc->sc<m+n->olds.length=m*ti.size->(∀u∈olds,fq u)->(∀i,i<m->f i w (aA ag ((olds.drop (i*ti.size)).take ti.size)))->(Builtin.firstCells ti.size m (.slice bs m sc)).run P w.drew=.ok olds.toArray w.drew ->
   ∃(w':World) (X':Nat->Prop) (s':Value),(Builtin.append_ #[T,tx] ty #[s,yv]).run P w=.ok s' w'/\er X w w'/\(∀k,X' k->X k\/w.heap.size<=k)/\qR ti.size (m+n) ag E (λi=>if i<m then f i else g (i-m)) s' X' w':=by
  intro bs sc olds e hlt ew Za Vd hold
  have hrun:=run_append_grow_src (P:=P) w T tx ty E ti zv ht.under hi hz bs m sc olds hold yv n news hS hlt (by omega) (growslice_fits hlt (by
   have:(m+n)*ti.bytes<=1073741824*4096:=Nat.mul_le_mul hmax hby
   omega))
  have hge:=grownCap_ge w (m+n) sc E
  have hN:(olds++news).length=(m+n)*ti.size:=by rw[List.length_append,ew,hnl,Nat.add_mul]
  have hb0:Below w.heap.size w (w.drew.alloc (.cells (olds++news++(Builtin.zeroCells zv.cells (grownCap w (m+n) sc E-(m+n))).toList).toArray E)):=Below.alloc (Below.drew (Below.refl _ _)) (Nat.le_refl _) _
  have Ru:∀{q:Pred} {v:Value},aB q->q w v->q (w.drew.alloc (.cells (olds++news++(Builtin.zeroCells zv.cells (grownCap w (m+n) sc E-(m+n))).toList).toArray E)) v:=λhq hv=>hq _ w _ (Lj) hv _ (Ext.dJ hb0)
  refine⟨_,λk=>k=w.heap.size,.slice (some ⟨w.heap.size,0,none⟩) (m+n) (grownCap w (m+n) sc E),?_,er.dJ hb0,λk hk=>.inr (by omega),.inr ⟨w.heap.size,_,_,rfl,λ_=>Iff.rfl,heap_alloc_new w.drew _,?_,hge,grownCap_le_maxLen w (m+n) sc E (by unfold maxLen; omega),?_,λi hi=>?_⟩⟩
  ·rw[e,hrun]
   congr 3
   apply Array.ext'
   simp
  ·rw[List.length_append,hN,Array.length_toList,size_zeroCells,hzs,<-Nat.add_mul]
   congr 1; omega
  ·intro u hu
   rcases List.mem_append.1 hu with hu|hu
   ·rcases List.mem_append.1 hu with hu|hu
    ·exact Za u hu
    ·exact(IF u hu).1
   ·exact ir VG _ u hu
  ·have hle:(i+1)*ti.size<=(m+n)*ti.size:=Nat.mul_le_mul_right _ hi
   rw[Nat.succ_mul]at hle
   rw[List.drop_append_of_le_length (by rw[hN]; omega),List.take_append_of_le_length (by rw[List.length_drop,hN]; omega)]
   by_cases Fp:i<m
   ·have ID:(i+1)*ti.size<=m*ti.size:=Nat.mul_le_mul_right _ Fp
    rw[Nat.succ_mul]at ID
    simp only[Fp,if_true]
    rw[List.drop_append_of_le_length (by omega),List.take_append_of_le_length (by rw[List.length_drop]; omega)]
    exact Ru (hn i) (Vd i Fp)
   ·simp only[Fp,if_false]
    rw[BF ew (by omega)]
    exact Ru (hng _) (hnf (i-m) (by omega)).out
 rcases c5 with⟨e,hm0,hX⟩|⟨bb,cap,cur,e,hX,hblk,ue,U9,hcm,BN,hf⟩
 ·subst hm0
  refine fresh none 0 [] e (by omega) (by simp) (λu hu=>by cases hu) (λi hi=>absurd hi (Nat.not_lt_zero _)) (run_firstCells_none w.drew ti.size 0 0 0)
 ·have Ct:(cur.take (m*ti.size)).length=m*ti.size:=by
   rw[List.length_take,ue,Nat.min_eq_left (Nat.mul_le_mul_right _ U9)]
  have Cv:∀i,i<m->((cur.take (m*ti.size)).drop (i*ti.size)).take ti.size=(cur.drop (i*ti.size)).take ti.size:=λi hi=>by
   have ID:(i+1)*ti.size<=m*ti.size:=Nat.mul_le_mul_right _ hi
   rw[Nat.succ_mul]at ID
   rw[List.drop_take,List.take_take,Nat.min_eq_left (by omega)]
  by_cases hroom:m+n<=cap
  ·have hN:m*ti.size+n*ti.size<=cap*ti.size:=by
    have:=Nat.mul_le_mul_right ti.size hroom
    rwa [Nat.add_mul]at this
   have hsome:∀j,j<news.length->(w.cell? ⟨bb,0+m*ti.size+j,none⟩).isSome=true:=by
    intro j hj
    simp only[World.cell?,hblk]
    rw[List.getElem?_toArray,List.getElem?_eq_getElem (by rw[ue]; omega)]
    rfl
   have hfz:∀j,j<news.length->w.frozen? ⟨bb,0+m*ti.size+j,none⟩=false:=by
    intro j hj
    simp[World.frozen?,hblk]
   have hrun:=run_append_room_src (P:=P) w T tx ty E ti ht.under hi bb 0 m cap yv n news hS hroom hsome hfz
   have Fu:w.setCells bb (0+m*ti.size) news=w.setRow bb (cur.take (m*ti.size)++news++cur.drop (m*ti.size+news.length)).toArray:=by
    have r1:=run_storeCells_cells (P:=P) bb (0+m*ti.size) news 0 w (by simpa using hsome) (by simpa using hfz) λu hu=>(IF u hu).2
    have r2:=run_storeCells_at P bb (0+m*ti.size) E news 0 cur.toArray w hblk (by simp; omega) λu hu=>(IF u hu).2
    rw[r1]at r2
    injection r2 with _ r2
    simpa using r2
   rw[Fu]at hrun
   have og:∀j,M bb j:=λj=>OC bb ((hX bb).2 rfl) j
   have IA:Ext M w (w.setRow bb (cur.take (m*ti.size)++news++cur.drop (m*ti.size+news.length)).toArray):=⟨Nat.le_of_eq size_setRow.symm,λk hk hno=>dm λe'=>hno 0 (by rw[e']; exact og 0),λk o u hno zz=>by
    have U0:k≠bb:=λe'=>hno (by rw[e']; exact og o)
    rw[World.cell?_of_block (w:=w) (a:=⟨k,o,none⟩) (dm U0)]; exact zz⟩
   have Ru:∀{q:Pred} {v:Value},aB q->q w v->q (w.setRow bb (cur.take (m*ti.size)++news++cur.drop (m*ti.size+news.length)).toArray) v:=λhq hv=>hq _ w _ (Lj) hv _ IA
   refine⟨w.setRow bb (cur.take (m*ti.size)++news++cur.drop (m*ti.size+news.length)).toArray,X,.slice (some ⟨bb,0,none⟩) (m+n) cap,by rw[e,hrun],⟨rfl,rfl,rfl,Nat.le_of_eq size_setRow.symm,λk hk hno=>dm λe'=>hno ((hX k).2 e')⟩,λk hk=>.inl hk,.inr ⟨bb,cap,cur.take (m*ti.size)++news++cur.drop (m*ti.size+news.length),rfl,hX,setRow_heap w _ _ _ _ _ hblk,?_,hroom,hcm,λu hu=>?_,λi hi=>?_⟩⟩
   ·rw[List.length_append,List.length_append,Ct,List.length_drop,ue,hnl]; omega
   ·rcases List.mem_append.1 hu with hu|hu
    ·rcases List.mem_append.1 hu with hu|hu
     ·exact BN u (List.mem_of_mem_take hu)
     ·exact(IF u hu).1
    ·exact BN u (List.mem_of_mem_drop hu)
   ·have WL:(cur.take (m*ti.size)++news).length=(m+n)*ti.size:=by rw[List.length_append,Ct,hnl,Nat.add_mul]
    have hle:(i+1)*ti.size<=(m+n)*ti.size:=Nat.mul_le_mul_right _ hi
    rw[Nat.succ_mul]at hle
    rw[List.drop_append_of_le_length (by rw[WL]; omega),List.take_append_of_le_length (by rw[List.length_drop,WL]; omega)]
    by_cases Fp:i<m
    ·have ID:(i+1)*ti.size<=m*ti.size:=Nat.mul_le_mul_right _ Fp
     rw[Nat.succ_mul]at ID
     simp only[Fp,if_true]
     rw[List.drop_append_of_le_length (by rw[Ct]; omega),List.take_append_of_le_length (by rw[List.length_drop,Ct]; omega),Cv i Fp]
     exact Ru (hn i) (hf i Fp)
    ·simp only[Fp,if_false]
     rw[BF Ct (by omega)]
     exact Ru (hng _) (hnf (i-m) (by omega)).out
  ·refine fresh (some ⟨bb,0,none⟩) cap (cur.take (m*ti.size)) e (by omega) Ct (λu hu=>BN u (List.mem_of_mem_take hu)) (λi hi=>by rw[Cv i hi]; exact hf i hi) (run_firstCells_some w.drew ti.size m ⟨bb,0,none⟩ m cap _ Ct λj u hj=>?_)
   rw[Addr.add_mid,Nat.zero_add]
   have hdr:w.drew.heap=w.heap:=rfl
   simp only[World.cell?,hdr,hblk]
   rw[List.getElem?_take]at hj
   split at hj
   ·simpa using hj
   ·cases hj
variable {p:Pred}
theorem Fl (Lj:dc M w) (OC:∀k,X k->∀o,M k o) (c5:qR sz m ag E f s X w) (hy:aL M (λw=>dK sz ag 1 (λ_=>p) w yv) w) (ht:Dn P T tx E sz) (hagg:ag=false->sz=1) (hfit:Fits sz ag p) (hn:∀i,aB (f i)) (hnp:aB p) (hmax:m+1<=1073741824):
  ∃(w':World) (X':Nat->Prop) (s':Value),(Builtin.append_ #[T,tx] ty #[s,yv]).run P w=.ok s' w'/\er X w w'/\(∀k,X' k->X k\/w.heap.size<=k)/\qR sz (m+1) ag E (λi=>if i<m then f i else p) s' X' w':=by
 have e:(λi=>if i<m then f i else p)=λi=>if i<m then f i else(λ_:Nat=>p) (i-m):=rfl
 rw[e]
 exact ud Lj OC c5 hy ht hagg (λ_=>hfit) hn (λ_=>hnp) Nat.one_pos hmax
def L8 (sz m:Nat) (ag:Bool) (E:TypeId) (f:Nat->Pred) (s:Value):Rel:=λB w _=>qR sz m ag E f s B w
abbrev mQ (id sz m:Nat) (ag:Bool) (E:TypeId) (f:Nat->Pred) (s:Value):Vr:=fM id id (L8 sz m ag E f s)
theorem kz {B:Nat->Prop} {w:World} (h:qR sz m ag E f s B w):∀k,B k->k<w.heap.size/\∀o v,w.cell? ⟨k,o,none⟩=some v->fq v:=by
 intro k hk
 rcases h with⟨_,_,h6⟩|⟨bb,cap,cur,_,k2,k3,_,_,_,k7,_⟩
 ·exact absurd hk (h6 k)
 ·have:=(k2 k).1 hk
  subst this
  refine⟨(Array.getElem?_eq_some_iff.1 k3).1,λo v hc=>?_⟩
  simp only[World.cell?,k3]at hc
  have:cur[o]?=some v:=by simpa using hc
  exact k7 v (List.mem_of_getElem? this)
theorem Qf {V:List Vr} {N m':Nat} {f':Nat->Pred} (hm:m=m':=by first|rfl|omega) (hf:∀i,i<m->∀w v,f i w v->f' i w v:=by exactλ_ _ _ _ h=>h) (h:om N V=some (mQ N sz m ag E f s):=by exact rfl):∃r:Rel,om (mQ N sz m' ag E f' s).id V=some ⟨(mQ N sz m' ag E f' s).id,(mQ N sz m' ag E f' s).slot,none,none,(mQ N sz m' ag E f' s).kd,(mQ N sz m' ag E f' s).T,(mQ N sz m' ag E f' s).n,(mQ N sz m' ag E f' s).agg,r,[]⟩/\((mQ N sz m' ag E f' s).born=none/\(mQ N sz m' ag E f' s).dead=none/\(mQ N sz m' ag E f' s).st=[])/\∀F w v,r F w v->(mQ N sz m' ag E f' s).c0 F w v:=by
 subst hm
 refine⟨_,h,⟨rfl,rfl,rfl⟩,λF w v h5=>h5.imp (λh=>h) ?_⟩
 rintro⟨bb,cap,cur,k1,k2,k3,k4,k5,k6,k7,k8⟩
 exact⟨bb,cap,cur,k1,k2,k3,k4,k5,k6,k7,λi hi=>hf i hi _ _ (k8 i hi)⟩
variable {id:Nat}
theorem Si (f:Nat->Pred) (hI:Inv c V [] G none_ a w) (hid:(V.all λy=>y.id != id)=true:=by kernel_rfl):Inv c (V++[mQ id sz 0 ag E f (.slice none 0 0)]) [] G none_ a w:=by
 obtain⟨β,h⟩:=hI
 rw[List.all_eq_true]at hid
 have hne:∀y,y∈V->y.id≠id:=λy hy=>by simpa using hid y hy
 have e1:∀y,y∈V->lu β id (λ_=>False) y.id=β y.id:=λy hy=>zm (hne y hy)
 have eN:∀k,¬lu β id (λ_=>False) id k:=λk hk=>by rw[rG]at hk; exact hk
 have hmem:∀y,y∈V++[mQ id sz 0 ag E f (.slice none 0 0)]->y∈V\/y=mQ id sz 0 ag E f (.slice none 0 0):=λy hy=>by simpa using hy
 have hown:∀k o,own c (V++[mQ id sz 0 ag E f (.slice none 0 0)]) none_ (lu β id λ_=>False) k o->own c V none_ β k o:=by
  rintro k o (h1|⟨y,hy,h1,h2,h3⟩)
  ·exact .inl h1
  ·rcases hmem y hy with hy|rfl
   ·rw[e1 y hy]at h2
    exact .inr ⟨y,hy,h1,h2,h3⟩
   ·exact absurd h2 (eN k)
 refine⟨lu β id λ_=>False,h.size,h.defers,h.below,h.old,λy hy hl=>?_,λy y' g hy hy' hl hl' Lp=>?_,(λp hp=>by cases hp),λe he ho hf=>(h.kH e he ho hf).sub λk o _ hk=>hown k o hk⟩
 ·rcases hmem y hy with hy|rfl
  ·exact(h.var y hy hl).keep rfl (e1 y hy) (λ_ _=>rfl) (Nat.le_refl _) (λ_ hF=>hF.sub λk o _ hk=>hown k o hk) (λ_ hF=>hF.sub λk o _ hk=>⟨hown k o hk.1,hk.2⟩) rfl
  ·exact(bh rfl).2 ⟨λk hk=>absurd hk (eN k),λ_ _=>.inl ⟨rfl,rfl,eN⟩⟩
 ·rcases hmem y hy with hy|rfl<;>rcases hmem y' hy' with hy'|rfl
  ·rw[e1 y hy,e1 y' hy']
   exact h.apart y y' g hy hy' hl hl' Lp
  ·exactλ_=>eN g
  ·exactλh2=>absurd h2 (eN g)
  ·exact absurd rfl Lp
theorem TP {ops:Array Oper} {n0 d e:Nat} {x y:Operand} {ty2:TypeId} {pos pos2:String} {aZ aft2:Array Edge} (f':Nat->Pred) (hf':∀i w v,(if i<m then f i else p) w v->i<m+1->f' i w v) (hk:V[n0]?=some (mQ id sz m ag E f s):=by exact rfl) (h1:Has [0] G 0 x (cI s):=by exact hs) (h2:Has [0] G 0 y (dK sz ag 1 λ_=>p):=by exact hs) (hmax:m+1<=1073741824:=by omega)
  (hnf:∀i,aB (f i):=by intro i; exact Eb) (hnp:aB p:=by exact Eb) (hfit:Fits sz ag p:=by exact wg) (hagg:ag=false->sz=1:=by intro h; first|cases h|rfl) (ht:Hf P T tx E sz=true:=by kernel_rfl) (hV:dw V=true:=by kernel_rfl) (hG:eI G=true:=by kernel_rfl) (hu:iG V id n0=true:=by kernel_rfl) (hfr:rQ V G d e c.N=true:=by kernel_rfl):
  gU P ops (Inv c V [] G none_) [⟨some d,.call ⟨.builtin .append,#[x,y],#[T,tx]⟩,ty,pos,aZ,none⟩,⟨some e,.assign (.tmp d),ty2,pos2,aft2,none⟩] (λa w=>∃s',Inv c (V.set n0 (mQ id sz (m+1) ag E f' s')) [] (⟨none,none,e,cI s'⟩::G) none_ a w):=by
 unfold rQ at hfr
 simp only[Bool.and_eq_true,List.all_eq_true,decide_eq_true_eq,bne_iff_ne]at hfr
 obtain⟨fV,fG,Iy,Lm,GM⟩:=hfr
 refine⟨λa w=>∃s',Inv c (V.set n0 (mQ id sz (m+1) ag E f' s')) [] (⟨none,none,d,cI s'⟩::G) none_ a w,?_,_,?_,rfl⟩
 ·rintro a w ⟨β,hI⟩
  have hx0:=List.mem_of_getElem? hk
  have hO:=(bh rfl).1 (hI.var _ hx0 rfl)
  have hB:aL (minus (own c V none_ β) (β id)) (λw=>qR sz m ag E f s (β id) w) w:=hO.2
  have OC:∀k,β id k->∀o,own c V none_ β k o:=λk hk o=>.inr ⟨_,hx0,rfl,hk,Nat.zero_le _⟩
  obtain⟨w',X',s',hr,hle,Rh,hgr⟩:=Fl (ty:=ty) (yv:=a.eval y) (bX hI) OC hB.out (h2.spec hI pP) (tC ht) hagg hfit hnf hnp hmax
  have ex:a.eval x=s:=(h1.spec hI pP).out
  rw[<-ex]at hr
  have hn':∀i,aB (if i<m then f i else p):=λi=>by by_cases h:i<m<;>simp only[h,if_true,if_false]; exact hnf i; exact hnp
  refine .of rfl (mL hr ⟨s',lu β id X',?_⟩)
  have hm:=hI.move (B':=X') (R':=L8 sz (m+1) ag E f' s') (w':=w') hV hG hk (jC hu) hle Rh (kz hgr) ?_
  ·refine hm.rD Iy (λx hx=>?_) (λe he=>(fG e he).1) λ_ _=>rfl
   rcases List.mem_or_eq_of_mem_set hx with hx|rfl
   ·exact(fV x hx).1
   ·exact(fV _ hx0).1
  ·intro w'' he
   have yM:dc (minus (own c V none_ β) (β id)) w':=λk o hk=>by
    obtain⟨k1,k2⟩:=bX hI k o hk.1
    exact⟨Nat.lt_of_lt_of_le k1 hle.size,λu zz=>k2 u (by rw[<-World.cell?_of_block (w:=w) (w':=w') (a:=⟨k,o,none⟩) (hle.block k k1 hk.2)]; exact zz)⟩
   have hb:∀k,X' k->w''.heap[k]?=w'.heap[k]?:=λk hk=>he.block k (kz hgr k hk).1 λo ho=>(Rh k hk).elim ho.2 λh=>absurd (bX hI k o ho.1).1 (Nat.not_lt.2 h)
   refine(hgr.keep hn' yM he hb).imp (λh=>h) ?_
   rintro⟨bb,cap,cur,j1,j2,j3,j4,j5,j6,j7,j8⟩
   exact⟨bb,cap,cur,j1,j2,j3,j4,j5,j6,j7,λi hi=>hf' i _ _ (j8 i hi) hi⟩
 ·rintro a w ⟨s',β,hI⟩
  have hv:a.eval (.tmp d)=s':=(hI.kH ⟨none,none,d,cI s'⟩ (List.mem_cons_self ..) rfl rfl).out
  have DX:=hI.xu (G':=G) λe he=>List.mem_cons_of_mem _ he
  have hx0:=List.mem_of_getElem? hk
  refine .of rfl ?_
  unfold Does
  have hr:(execOp a.eval ⟨some e,.assign (.tmp d),ty2,pos2,aft2,none⟩).run P w=.ok (.value s') w:=by rw[<-hv]; rfl
  rw[hr]
  refine⟨s',β,DX.rD Lm (λx hx=>?_) (λe he=>(fG e he).2) λ_ _=>rfl⟩
  rcases List.mem_or_eq_of_mem_set hx with hx|rfl
  ·exact(fV x hx).2
  ·exact(fV _ hx0).2
theorem JV (hI:Inv c V [] G none_ a w) (k slot:Nat) (hk:V[k]?=some (mQ id sz m ag E f s)) (hu:((V.eraseIdx k).all λy=>y.id != id)=true) (h1:iW slot G=some (cI s):=by exact rfl):Inv c (V.eraseIdx k) [] (⟨none,none,slot,dK sz ag m f⟩::G) none_ a w:=by
 obtain⟨β,h⟩:=hI
 have hx:=List.mem_of_getElem? hk
 have hsub:∀y,y∈V.eraseIdx k->y∈V/\y.id≠id:=λy hy=>⟨List.mem_of_mem_eraseIdx hy,by
  have:=List.all_eq_true.1 hu y hy
  simpa using this⟩
 have hO:=(bh rfl).1 (h.var _ hx rfl)
 have hB:aL (minus (own c V none_ β) (β id)) (λw=>qR sz m ag E f s (β id) w) w:=hO.2
 have kQ:∀k,β id k->mine c k:=λk hk'=>(hO.1 k hk').1
 obtain⟨k1,jE⟩:=gj h1
 have es:sl a slot=s:=(h.kH _ (List.mem_of_getElem? jE) rfl rfl).out
 have eo:∀k' o,own c (V.eraseIdx k) none_ β k' o->minus (own c V none_ β) (β id) k' o:=by
  rintro k' o (hM|⟨y,hy,q1,q2,q3⟩)
  ·exact⟨.inl hM,λhb=>ju h (kQ k' hb) hM⟩
  ·obtain⟨hy,hid⟩:=hsub y hy
   exact⟨.inr ⟨y,hy,q1,q2,q3⟩,λhb=>h.apart y _ k' hy hx q1 rfl hid q2 hb⟩
 refine⟨β,h.size,h.defers,h.below,h.old,λy hy hl=>(h.var y (hsub y hy).1 hl).keep rfl rfl (λ_ _=>rfl) (Nat.le_refl _) (λF hF=>hF.sub λk o _ hh=>(eo k o hh).1) (λF hF=>hF.sub λk o _ hh=>⟨(eo k o hh.1).1,hh.2⟩) rfl,λy z g hy hz=>h.apart y z g (hsub y hy).1 (hsub z hz).1,(λp hp=>by cases hp),λe he ho hf'=>?_⟩
 rcases List.mem_cons.1 he with rfl|he
 ·intro w' hw'
  show dK sz ag m f w' (sl a slot)
  rw[es]
  rcases hB w' (hw'.mono λk o _ hh=>eo k o hh)with⟨e,hm,_⟩|⟨bb,cap,cur,e,_,d3,d4,d5,d6,_,d8⟩
  ·subst e hm
   exact⟨none,0,rfl,Nat.le_refl _,Nat.zero_le _,λh=>absurd h (Nat.lt_irrefl 0)⟩
  ·subst e
   refine⟨_,cap,rfl,d5,d6,λ_=>⟨bb,0,rfl,λq hq=>⟨(cur.drop (q*sz)).take sz,?_,λj v hj=>?_,d8 q hq⟩⟩⟩
   ·have:=Nat.mul_le_mul_right sz (Nat.lt_of_lt_of_le hq d5)
    rw[Nat.succ_mul]at this
    rw[List.length_take,List.length_drop]
    omega
   ·rw[Nat.zero_add]
    exact jk d3 _ _ j v hj
 ·exact(h.kH e he ho hf').sub λk o _ hh=>(eo k o hh).1
end
end Wx

namespace Wx
open Go Go.RowKit
set_option linter.unusedVariables false
def KH (sz n:Nat) (ag:Bool) (f:Nat->Pred):Pred:=λw v=>∃cs:List Value,v=aA true cs/\∀q,q<n->f q w (aA ag ((cs.drop (q*sz)).take sz))
theorem iB {sz n:Nat} {ag:Bool} {f:Nat->Pred} (h:∀q,aB (f q)):aB (KH sz n ag f):=λM w _ hM ⟨cs,e,hc⟩ w' he=>⟨cs,e,λq hq=>h q M w _ hM (hc q hq) w' he⟩
def KM (sz n:Nat) (ag:Bool) (f:Nat->Pred) (w:World) (e:Ending) (w':World):Prop:=∃b cap,e=.returned (.slice (some ⟨b,0,none⟩) n cap)/\Below w.heap.size w w'/\w.heap.size<=b/\(n<=cap/\cap<=maxLen)/\One b (cap*sz) (KH sz n ag f) w'
section
variable {P:Program} {c:eL} {V:List Vr} {A:List Al} {G:List bI} {a:Act} {w:World} {β:Nat->Nat->Prop} {x y z:Operand} {d:Nat} {ty:TypeId} {pos:String} {aZ:Array Edge}{n sz:Nat} {ag:Bool}
theorem TW {fn:Func} {id s n0:Nat} {w0:World} {N:Nat} {M:Nat->Nat->Prop} {T:TypeId} {m':Nat} {agg:Bool} {f:Nat->Pred} {p0:Rel} {st:List (Nat×Rel)} (hI:Inv ⟨N,w0,M,λ_=>False⟩ V [] G none_ a w) (hr:fn.results=#[.tmp s]) (hk:V[n0]?=some ⟨id,s,none,none,.grow n sz,T,m',ag,p0,st⟩) (hn:0<n) {k:Nat} (hg:G[k]?=some ⟨none,none,s,dK sz agg n f⟩):bodyPost P fn (KM sz n agg f w0) .ret a w:=by
 obtain⟨β,hI⟩:=hI
 obtain⟨b,cap,cur,h1,h2,h3,h4,h5,h6,h7,h8⟩:=Cq hI hk hn hg
 refine lH hI (v:=sl a s) ?_ ⟨b,cap,by rw[h1],hI.below.below (λ_ h=>h),h2,⟨h5,h6⟩,cur,T,h3,h4,h7,cur,rfl,h8⟩
 rw[fQ,hr]
 simp[rE,sl]
variable {b:Nat} {v:Value} {w':World}
theorem bO.BZ {R:(Nat->Prop)->World->Prop} (h:bO c V [] G none_ β a w) (hb:Below w.heap.size w w') (hB:w.heap.size<=b) (hlt:b<w'.heap.size) (hno:∀o u,w'.cell? ⟨b,o,none⟩=some u->fq u) (hR:∀M,dc M w'->aL (minus M (·=b)) (R (·=b)) w') (hd:d<c.N)
  (hV:(V.all λy=>(y.slot != d&&y.id != d)&&(y.born.isNone&&y.dead.isNone))=true) (hG:(G.all λe=>e.slot != d)=true):
  Inv c (fM d d (λB w _=>R B w)::V) [] (⟨none,none,d,cI v⟩::G) none_ (a.put (some d) v) w':=by
 have hV:∀y,y∈V->(y.slot≠d/\y.id≠d)/\live none_ y=true:=λy hy=>by
  rw[List.all_eq_true]at hV
  have:=hV y hy
  simp only[Bool.and_eq_true,bne_iff_ne]at this
  refine⟨this.1,?_⟩
  unfold live
  cases hb:y.born with
  |some j=>rw[hb]at this; cases this.2.1
  |none=>cases hd:y.dead with
   |some j=>rw[hd]at this; cases this.2.2
   |none=>rfl
 have hG:∀e,e∈G->e.slot≠d:=λe he=>by
  rw[List.all_eq_true]at hG
  simpa using hG e he
 let β':Nat->Nat->Prop:=λs=>if s=d then(·=b)else β s
 have hβ:∀y,y∈V->β' y.id=β y.id:=λy hy=>if_neg (hV y hy).1.2
 have IU:β' d=(·=b):=if_pos rfl
 have e3:Ext (own c V none_ β) w w':=Ext.dJ hb
 have hown:∀k j,k<w.heap.size->own c (fM d d (λB w _=>R B w)::V) none_ β' k j->own c V none_ β k j:=by
  rintro k j hk (h1|⟨y,hy,h1,h2,h3⟩)
  ·exact .inl h1
  ·rcases List.mem_cons.1 hy with rfl|hy
   ·have h2:β' d k:=h2
    rw[IU]at h2
    have h2:k=b:=h2
    omega
   ·rw[hβ y hy]at h2
    exact .inr ⟨y,hy,h1,h2,h3⟩
 have yM:dc (own c (fM d d (λB w _=>R B w)::V) none_ β') w':=by
  rintro k j hk
  rcases Nat.lt_or_ge k w.heap.size with h'|h'
  ·obtain⟨h1,h2⟩:=bX h k j (hown k j h' hk)
   refine⟨Nat.lt_of_lt_of_le h1 hb.size,λu hu=>h2 u ?_⟩
   rw[World.cell?_of_block (w:=w) (a:=⟨k,j,none⟩) (hb.block k h')]at hu
   exact hu
  ·rcases hk with h1|⟨y,hy,h1,h2,h3⟩
   ·exact absurd (zb h (.inl h1)) (by omega)
   ·rcases List.mem_cons.1 hy with rfl|hy
    ·have h2:β' d k:=h2
     rw[IU]at h2
     have h2:k=b:=h2
     subst h2
     exact⟨hlt,λu hu=>hno j u hu⟩
    ·rw[hβ y hy]at h2
     exact absurd (jD h hy h1 h2) (by omega)
 have sd:∀s,s≠d->sl (a.put (some d) v) s=sl a s:=λs hs=>dB λe=>hs (Option.some.inj e).symm
 refine⟨β',by rw[lq]; exact h.size,by rw[put_defers]; exact h.defers,h.below.trans (er.dJ hb),h.uH λk hk hn=>hb.block k (Nat.lt_of_lt_of_le hk h.below.size),?_,?_,(λp hp=>by cases hp),?_⟩
 ·intro y hy _
  rcases List.mem_cons.1 hy with rfl|hy
  ·refine(bh rfl).2 ⟨λk hk=>?_,?_⟩
   ·have hk:β' d k:=hk
    rw[IU]at hk
    have hk:k=b:=hk
    subst hk
    exact⟨.inl (Nat.le_trans h.below.size hB),hlt,λo u hu=>hno o u hu⟩
   ·show aL (minus _ (β' d)) (λw=>R (β' d) w) w'
    rw[IU]
    exact hR _ yM
  ·have R6:=(hV y hy).2
   refine(h.var y hy R6).keep (sd _ (hV y hy).1.1) (hβ y hy) (λg hg=>hb.block g (jD h hy R6 hg)) hb.size (λF hF=>mD e3 hown hF) (λF hF=>?_) rfl
   refine mD (M:=minus (own c V none_ β) (β y.id)) (Ext.dJ hb) ?_ hF
   rintro k j hk ⟨h1,h2⟩
   exact⟨hown k j hk h1,h2⟩
 ·intro y y' g hy hy' _ _ hne
  rcases List.mem_cons.1 hy with rfl|hy<;>rcases List.mem_cons.1 hy' with rfl|hy'
  ·exact absurd rfl hne
  ·intro h1 h2
   have h1:β' d g:=h1
   rw[IU]at h1
   rw[hβ y' hy']at h2
   have h1:g=b:=h1
   exact absurd (jD h hy' (hV y' hy').2 h2) (by omega)
  ·intro h1 h2
   have h2:β' d g:=h2
   rw[IU]at h2
   rw[hβ y hy]at h1
   have h2:g=b:=h2
   exact absurd (jD h hy (hV y hy).2 h1) (by omega)
  ·rw[hβ y hy,hβ y' hy']
   exact h.apart y y' g hy hy' (hV y hy).2 (hV y' hy').2 hne
 ·intro e he ho hf
  rcases List.mem_cons.1 he with rfl|he
  ·refineλw'' _=>?_
   show sl (a.put (some d) v) d=v
   exact kD (by rw[h.size]; exact hd)
  ·have:=h.kH e he ho hf
   show aL _ (λw=>e.p w (sl (a.put (some d) v) e.slot)) w'
   rw[sd _ (hG e he)]
   exact mD e3 hown this
theorem bO.NV {q:Pred} (h:bO c V [] G none_ β a w) (hb:Below w.heap.size w w') (hB:w.heap.size<=b) (hO:One b n q w') (hq:aB q) (hd:d<c.N)
  (hV:(V.all λy=>(y.slot != d&&y.id != d)&&(y.born.isNone&&y.dead.isNone))=true) (hG:(G.all λe=>e.slot != d)=true):
  Inv c (gm d b n q::V) [] (⟨none,none,d,cI v⟩::G) none_ (a.put (some d) v) w':=
 h.BZ (R:=λB w=>(∀k,B k↔k=b)/\One b n q w) hb hB hO.lt hO.Sj (λM hM=>λw'' he=>⟨λ_=>Iff.rfl,hO.box (B:=(·=b)) rfl hq hM w'' he⟩) hd hV hG
variable {f:FuncId} {ts:Array TypeId} {ops:Array Oper} {p1 q1:Pred} {g:Nat->Pred} {φ:Prop}
theorem Db (jl:φ->∀(M:Nat->Nat->Prop) w v1,dc M w->aL M (λw=>p1 w v1) w->Calls P f #[v1] w (KM sz n ag g w)) (hφ:φ) (hg:∀q,aB (g q)) (h1:Has [0] G 0 x q1:=by exact hs) (c1:∀w v,q1 w v->p1 w v:=by exactλ_ _ h=>h) (hf:aM P f:=by exactλ_ _=>by kernel_rfl) (hd:decide (d<c.N)=true:=by kernel_rfl)
  (hV:(V.all λy=>(y.slot != d&&y.id != d)&&(y.born.isNone&&y.dead.isNone))=true:=by kernel_rfl) (hG:(G.all λe=>e.slot != d)=true:=by kernel_rfl):∀a w,Inv c V [] G none_ a w ->
  eC P ops ⟨some d,.call ⟨.value (.func f),#[x],ts⟩,ty,pos,aZ,none⟩ a w (λa w=>∃b cap,(n<=cap/\cap<=maxLen)/\Inv c (gm d b (cap*sz) (KH sz n ag g)::V) [] (⟨none,none,d,cI (.slice (some ⟨b,0,none⟩) n cap)⟩::G) none_ a w):=by
 rintro a w ⟨β,hI⟩
 refine .of rfl (nO hf (Calls.mono (by
  rw[show(#[x]:Array Operand).map a.eval=#[a.eval x] by simp]
  exact jl hφ _ w _ (bX hI) ((h1.spec hI pP).imp λw=>c1 w _)) ?_))
 rintro e w' ⟨b,cap,rfl,hb,hrb,hc,ho⟩
 exact⟨_,rfl,b,cap,hc,hI.NV hb hrb ho (iB hg) (of_decide_eq_true hd) hV hG⟩
theorem Yg {e:Nat} {ty2:TypeId} {pos2:String} {aft2:Array Edge} (jl:φ->∀(M:Nat->Nat->Prop) w v1,dc M w->aL M (λw=>p1 w v1) w->Calls P f #[v1] w (KM sz n ag g w)) (hφ:φ) (hg:∀q,aB (g q)) (h1:Has [0] G 0 x q1:=by exact hs) (c1:∀w v,q1 w v->p1 w v:=by exactλ_ _ h=>h) (hf:aM P f:=by exactλ_ _=>by kernel_rfl) (hd:decide (d<c.N)=true:=by kernel_rfl) (he:decide (e<c.N/\d≠e)=true:=by kernel_rfl)
  (hV:(V.all λy=>(y.slot != d&&y.id != d)&&(y.born.isNone&&y.dead.isNone))=true:=by kernel_rfl) (hG:(G.all λe=>e.slot != d)=true:=by kernel_rfl) (hV2:(V.all λy=>y.slot != e)=true:=by kernel_rfl) (Li:(G.all λy=>y.slot != e)=true:=by kernel_rfl):
  gU P ops (Inv c V [] G none_) [⟨some d,.call ⟨.value (.func f),#[x],ts⟩,ty,pos,aZ,none⟩,⟨some e,.assign (.tmp d),ty2,pos2,aft2,none⟩] (λa w=>∃b cap,(n<=cap/\cap<=maxLen)/\Inv c (gm d b (cap*sz) (KH sz n ag g)::V) [] (⟨none,none,e,cI (.slice (some ⟨b,0,none⟩) n cap)⟩::G) none_ a w):=by
 refine⟨_,Db jl hφ hg h1 c1 hf hd hV hG,_,?_,rfl⟩
 rintro a w ⟨b,cap,hc,β,hI⟩
 have he:=of_decide_eq_true he
 have hv:a.eval (.tmp d)=.slice (some ⟨b,0,none⟩) n cap:=(hI.kH ⟨none,none,d,cI _⟩ (List.mem_cons_self ..) rfl rfl).out
 have DX:=hI.xu (G':=G) λe he=>List.mem_cons_of_mem _ he
 refine .of rfl ?_
 unfold Does
 have hr:(execOp a.eval ⟨some e,.assign (.tmp d),ty2,pos2,aft2,none⟩).run P w=.ok (.value (.slice (some ⟨b,0,none⟩) n cap)) w:=by rw[<-hv]; rfl
 rw[hr]
 refine⟨b,cap,hc,β,DX.rD he.1 (λx hx=>?_) (λy hy=>by have:=List.all_eq_true.1 Li y hy; simpa using this) λ_ _=>rfl⟩
 rcases List.mem_cons.1 hx with rfl|hx
 ·exact he.2
 ·have:=List.all_eq_true.1 hV2 x hx
  simpa using this
end
section
variable {P:Program} {ops:Array Oper} {ms:List Nat} {c:eL} {V:List Vr} {A:List Al} {G:List bI} {i:Nat}{x y z:Operand} {d:Nat} {ty:TypeId} {pos:String} {aZ:Array Edge}
end
end Wx
