import Derived.Test.YtfnmkhlleanppaaGreatDoorJWC21
namespace Wx
open Go Go.RowKit
set_option linter.unusedVariables false
def uf (sz m:Nat) (ag:Bool) (E:TypeId) (f:Nat->Pred) (s:Value) (X:Nat->Prop) (w:World):Prop:=
 (s=.slice none 0 0/\m=0/\∀k,¬X k) \/
 ∃(bb cap:Nat) (cur:List Value),s=.slice (some ⟨bb,0,none⟩) m cap/\(∀k,X k↔k=bb)/\w.heap[bb]?=some (.cells cur.toArray E (0,0))/\cur.length=cap*sz/\m<=cap/\cap<=maxLen/\(∀u∈cur,dB u)/\∀i,i<m->f i w (aq ag ((cur.drop (i*sz)).take sz))
def kT (b:Nat) (sz m:Nat) (ag:Bool) (E:TypeId) (f:Nat->Pred) (s0 s:Value):Rel:=λB w _=>∃(X:Nat->Prop) (T:TypeId),(∀k,B k↔k=b\/X k)/\¬X b/\w.heap[b]?=some (.cells #[s0] T (0,0))/\dB s0/\uf sz m ag E f s X w
def F4 (b sz m:Nat) (ag:Bool) (E:TypeId) (f:Nat->Pred):Rel:=λB w v=>∃s,kT b sz m ag E f s s B w v
abbrev kE (id b sz m:Nat) (ag:Bool) (E:TypeId) (f:Nat->Pred):Vr:=cr id id (F4 b sz m ag E f)
abbrev Jd (id b sz m:Nat) (ag:Bool) (E:TypeId) (f:Nat->Pred) (s:Value):Vr:=cr id id (kT b sz m ag E f s s)
theorem LD {V:List Vr} {N b sz m m':Nat} {ag:Bool} {E:TypeId} {f f':Nat->Pred} (hm:m=m':=by first|rfl|omega) (hf:∀i,i<m->∀w v,f i w v->f' i w v:=by exactλ_ _ _ _ h=>h) (h:ia N V=some (kE N b sz m ag E f):=by exact rfl):∃r:Rel,ia (kE N b sz m' ag E f').id V=some ⟨(kE N b sz m' ag E f').id,(kE N b sz m' ag E f').slot,none,none,(kE N b sz m' ag E f').kd,(kE N b sz m' ag E f').T,(kE N b sz m' ag E f').n,(kE N b sz m' ag E f').agg,r,[]⟩/\((kE N b sz m' ag E f').born=none/\(kE N b sz m' ag E f').dead=none/\(kE N b sz m' ag E f').st=[])/\∀F w v,r F w v->(kE N b sz m' ag E f').c0 F w v:=by
 subst hm
 refine⟨_,h,⟨rfl,rfl,rfl⟩,?_⟩
 rintro F w v ⟨s,X,T,h1,h2,h3,h4,h5⟩
 refine⟨s,X,T,h1,h2,h3,h4,h5.imp (λh=>h) ?_⟩
 rintro⟨bb,cap,cur,k1,k2,k3,k4,k5,k6,k7,k8⟩
 exact⟨bb,cap,cur,k1,k2,k3,k4,k5,k6,k7,λi hi=>hf i hi _ _ (k8 i hi)⟩
section
variable {P:Program} {c:bQ} {V:List Vr} {G:List aN} {a:Act} {w:World}{b sz m:Nat} {ag:Bool} {E:TypeId} {f:Nat->Pred} {s0 s:Value} {B:Nat->Prop}
theorem my {w:World} {v:Value} (h:kT b sz m ag E f s0 s B w v):∀k,B k->k<w.heap.size/\∀o v,w.cell? ⟨k,o,none⟩=some v->dB v:=by
 obtain⟨X,T,h1,_,h3,h4,h5⟩:=h
 have cells:∀{k:Nat} {cs:List Value} {T:TypeId},w.heap[k]?=some (.cells cs.toArray T (0,0))->(∀v∈cs,dB v)->k<w.heap.size/\∀o v,w.cell? ⟨k,o,none⟩=some v->dB v:=by
  intro k cs T h1 h2
  refine⟨(Array.getElem?_eq_some_iff.1 h1).1,λo v hc=>?_⟩
  simp only[World.cell?,h1]at hc
  have:cs[o]?=some v:=by simpa using hc
  exact h2 v (List.mem_of_getElem? this)
 intro k hk
 rcases (h1 k).1 hk with rfl|hk
 ·exact cells (cs:=[s0]) h3 (λv hv=>by rw[List.mem_singleton.1 hv]; exact h4)
 ·rcases h5 with⟨_,_,h6⟩|⟨bb,cap,cur,_,k2,k3,_,_,_,k7,_⟩
  ·exact absurd hk (h6 k)
  ·have:=(k2 k).1 hk
   subst this
   exact cells k3 k7
variable {i:Nat}
theorem KG {T:Nat} (f:Nat->Pred) (hI:Inv c V [] G none_ a w) (k:Nat) (hk:V[k]?=some (Vz i i T 1 false (aG (.slice none 0 0)))):∃b,Inv c (V.set k (kE i b sz 0 ag E f)) [] (⟨none,none,i,aG (.pointer (some ⟨b,0,none⟩))⟩::G) none_ a w:=by
 obtain⟨β,h⟩:=hI
 have hx:=List.mem_of_getElem? hk
 have hkn:=(List.getElem?_eq_some_iff.1 hk).1
 obtain⟨g,e,h1,hb⟩:=(aY rfl).1 (h.var _ hx rfl)
 obtain⟨cs,k1,k2,k3,k4⟩:=hb.held
 have e:∀k,β i k↔k=g:=e
 have k2:cs.length=1:=k2
 obtain⟨s,rfl⟩:∃s,cs=[s]:=by
  cases cs with
  |nil=>cases k2
  |cons s r=>cases r with
   |nil=>exact⟨s,rfl⟩
   |cons _ _=>simp at k2
 have es:s=.slice none 0 0:=k4.out
 subst es
 have hmem:∀y,y∈V.set k (kE i g sz 0 ag E f)->y=kE i g sz 0 ag E f\/y∈V:=λy hy=>(List.mem_or_eq_of_mem_set hy).symm
 have yc:∀y,y∈V->y=Vz i i T 1 false (aG (.slice none 0 0))\/y∈V.set k (kE i g sz 0 ag E f):=by
  intro y hy
  obtain⟨m,hm⟩:=List.mem_iff_getElem?.1 hy
  by_cases hmk:m=k
  ·subst hmk
   rw[hk]at hm
   exact .inl (Option.some.inj hm).symm
  ·exact .inr (List.mem_iff_getElem?.2 ⟨m,by rw[List.getElem?_set_ne (Ne.symm hmk)]; exact hm⟩)
 have hnew:kE i g sz 0 ag E f∈V.set k (kE i g sz 0 ag E f):=List.mem_iff_getElem?.2 ⟨k,by rw[List.getElem?_set_self hkn]⟩
 have eo:own c (V.set k (kE i g sz 0 ag E f)) none_ β=own c V none_ β:=by
  funext k' o
  apply propext
  constructor
  ·rintro(h'|⟨y,hy,h1,h2,h3⟩)
   ·exact .inl h'
   ·rcases hmem y hy with rfl|hy
    ·exact .inr ⟨_,hx,rfl,h2,Nat.zero_le _⟩
    ·exact .inr ⟨y,hy,h1,h2,h3⟩
  ·rintro(h'|⟨y,hy,h1,h2,h3⟩)
   ·exact .inl h'
   ·rcases yc y hy with rfl|hy
    ·exact .inr ⟨_,hnew,rfl,h2,Nat.zero_le _⟩
    ·exact .inr ⟨y,hy,h1,h2,h3⟩
 refine⟨g,β,h.size,h.defers,h.below,h.old,λy hy hl=>?_,λy y' g' hy hy' hl hl' hne=>?_,(λp hp=>by cases hp),λe' he ho hf=>?_⟩
 ·rw[eo]
  rcases hmem y hy with rfl|hy
  ·refine(aB rfl).2 ⟨λk' hk'=>?_,λw' he=>⟨_,λ_=>False,T,λk'=>by rw[show β (kE i g sz 0 ag E f).id k'↔k'=g from e k']; simp,λh=>h,?_,bu _ _ _,.inl ⟨rfl,rfl,λ_ h=>h⟩⟩⟩
   ·have:=(e k').1 hk'
    subst this
    exact(h.var _ hx rfl).blk hk'
   ·exact(he.block g ((Array.getElem?_eq_some_iff.1 k1).1) λo ho=>ho.2 ((e g).2 rfl)).trans k1
  ·exact h.var y hy hl
 ·have hy0:∃z,z∈V/\z.id=y.id/\live none_ z=true:=(hmem y hy).elim (λe=>⟨_,hx,by rw[e],rfl⟩) λh=>⟨y,h,rfl,hl⟩
  have Kg:∃z,z∈V/\z.id=y'.id/\live none_ z=true:=(hmem y' hy').elim (λe=>⟨_,hx,by rw[e],rfl⟩) λh=>⟨y',h,rfl,hl'⟩
  obtain⟨z,hz,ez,lz⟩:=hy0
  obtain⟨z',At,GC,Kk⟩:=Kg
  rw[<-ez,<-GC]
  exact h.apart z z' g' hz At lz Kk (by rw[ez,GC]; exact hne)
 ·rw[eo]
  rcases List.mem_cons.1 he with rfl|he
  ·exactλw' _=>h1
  ·exact h.ew e' he ho hf
variable {id n0:Nat}
theorem CD {β:Nat->Nat->Prop} (h:aQ c V [] G none_ β a w) (hk:V[n0]?=some (cr id id (kT b sz m ag E f s0 s))):aJ (minus (own c V none_ β) (β id)) (λw=>kT b sz m ag E f s0 s (β id) w (sl a id)) w:=((aB rfl).1 (h.var _ (List.mem_of_getElem? hk) rfl)).2
theorem Fg (hI:Inv c V [] G none_ a w) (n0:Nat) (hk:V[n0]?=some (kE id b sz m ag E f)) (hV:bE V=true:=by kernel_rfl) (hG:bT G=true:=by kernel_rfl) (hu:dG V id n0=true:=by kernel_rfl):∃s,Inv c (V.set n0 (Jd id b sz m ag E f s)) [] G none_ a w:=by
 obtain⟨β,h⟩:=hI
 have hB:aJ (minus (own c V none_ β) (β id)) (λw=>F4 b sz m ag E f (β id) w (sl a id)) w:=((aB rfl).1 (h.var _ (List.mem_of_getElem? hk) rfl)).2
 obtain⟨s,hs⟩:=hB.out
 have dV:=my hs
 obtain⟨X0,T0,c1,_,c3,_,_⟩:=hs
 have hbl:b<w.heap.size:=(Array.getElem?_eq_some_iff.1 c3).1
 refine⟨s,_,h.move (B':=β id) (R':=kT b sz m ag E f s s) hV hG hk (cX hu) (bX.refl _ _) (λk hk=>.inl hk) dV ?_⟩
 intro w' he
 obtain⟨s',hs'⟩:=hB w' he
 obtain⟨X,T,d1,d2,d3,d4,d5⟩:=hs'
 have e1:w'.heap[b]?=w.heap[b]?:=he.block b hbl λo ho=>ho.2 ((c1 b).2 (.inl rfl))
 rw[e1,c3]at d3
 injection d3 with d3
 injection d3 with d3
 have:s=s':=by simpa using d3
 subst this
 exact⟨X,T0,d1,d2,e1.trans c3,d4,d5⟩
variable {T:TypeId} {ops:Array Oper} {d:Nat} {y:Operand} {ty:TypeId} {pos:String} {aft:Array Edge}
theorem MX {ms:List Nat} {A:List Al} {v:Vr} (N:Nat) (hv:ia N V=some v:=by exact rfl) (ho:bC ms i v=true:=by exact rfl) (bR:v.kd=.obj:=by exact rfl) (hst:(v.st.all λq=>(q.1==i||(ms.getD i 0).testBit q.1)||(ms.getD q.1 0).testBit i)=true:=by kernel_rfl)
  (hc:cont (λj=>(ms.getD i 0).testBit j) v.c0 v.st=kT b sz m ag E f s0 s:=by exact rfl) (h:Has ms G i y (aG (.pointer (some ⟨b,0,none⟩))):=by exact hs) (hp:Post G i (aG s0):=by exact pt rfl) (ht:wQ P T false 1=true:=by kernel_rfl):OpOk P ops ms c V A G i ⟨some d,.load T y,ty,pos,aft,none⟩:=by
 obtain⟨⟨k,hk⟩,_⟩:=cH hv
 exact bD rfl rfl rfl (.inl rfl) hp λL β a w hI hd=>by
  have hH:=(jl hI hd (List.mem_of_getElem? hk) ho bR).2.out
  rw[fq hd hst,hc]at hH
  obtain⟨X,T0,_,_,c3,_,_⟩:=hH
  have hy:a.eval y=.pointer (some ⟨b,0,none⟩):=(h.spec hI hd).out
  refine⟨s0,w,?_,Below.refl _ _,λ_ _=>rfl⟩
  show(do pure (Next.value (<-Instr.loadAt T (a.eval y)))).run P w=_
  rw[hy,Sem.run_bind,cT (cs:=[s0]) (bV ht) (λj u hj=>by simp only[World.cell?,c3]; rw[Nat.zero_add]; simpa using hj) rfl]
  rfl
variable {X:Nat->Prop} {M:Nat->Nat->Prop}
theorem uf.keep {w w':World} (h:uf sz m ag E f s X w) (hn:∀i,aO (f i)) (hM:cS M w) (he:Ext M w w') (hb:∀k,X k->w'.heap[k]?=w.heap[k]?):uf sz m ag E f s X w':=by
 refine h.imp (λh=>h) ?_
 rintro⟨bb,cap,cur,k1,k2,k3,k4,k5,k6,k7,k8⟩
 exact⟨bb,cap,cur,k1,k2,(hb bb ((k2 bb).2 rfl)).trans k3,k4,k5,k6,k7,λi hi=>hn i M w _ hM (k8 i hi) w' he⟩
theorem sC {olds news:List Value} (h:olds.length=m*sz) (hi:m<=i):((olds++news).drop (i*sz)).take sz=(news.drop ((i-m)*sz)).take sz:=by
 have hle:=Nat.mul_le_mul_right sz hi
 rw[List.drop_append,List.drop_eq_nil_of_le (by rw[h]; exact hle),List.nil_append,h,Nat.sub_mul]
variable {tx:TypeId} {yv:Value}
theorem sX {n:Nat} {g:Nat->Pred} (AX:cS M w) (Ea:∀k,X k->∀o,M k o) (c5:uf sz m ag E f s X w) (hy:aJ M (λw=>aI sz ag n g w yv) w) (ht:lf P T tx E sz) (hagg:ag=false->sz=1) (hfit:∀i,Fits sz ag (g i)) (hn:∀i,aO (f i)) (IP:∀i,aO (g i)) (hn0:0<n) (hmax:m+n<=1073741824):
  ∃(w':World) (X':Nat->Prop) (s':Value),(Builtin.append_ #[T,tx] ty #[s,yv]).run P w=.ok s' w'/\bX X w w'/\(∀k,X' k->X k\/w.heap.size<=k)/\uf sz (m+n) ag E (λi=>if i<m then f i else g (i-m)) s' X' w':=by
 obtain⟨A2,sQ,news,DX,JY,hc2,jh,kF,hnc,rA⟩:=iO hagg (λk _=>hfit k) hy
 obtain⟨E',Ep⟩:=ht.src
 obtain⟨ti,zv,hi,hsz,hz,hzs,Ew,hby⟩:=ht.info
 subst hsz
 have hS:Src P ti.size tx yv n news w:=by
  rw[DX]
  exact qv Ep jh (λu hu=>(kF u hu).2) λh=>by
   obtain⟨b,o,e,hc⟩:=hnc h
   exact⟨b,o,e,λj u hj=>(hc j u hj).1⟩
 have fresh:∀(bs:Option Addr) (sc:Nat) (olds:List Value),s=.slice bs m sc->sc<m+n->olds.length=m*ti.size->(∀u∈olds,dB u)->(∀i,i<m->f i w (aq ag ((olds.drop (i*ti.size)).take ti.size)))->(Builtin.firstCells ti.size m (.slice bs m sc)).run P w.drew=.ok olds.toArray w.drew ->
   ∃(w':World) (X':Nat->Prop) (s':Value),(Builtin.append_ #[T,tx] ty #[s,yv]).run P w=.ok s' w'/\bX X w w'/\(∀k,X' k->X k\/w.heap.size<=k)/\uf ti.size (m+n) ag E (λi=>if i<m then f i else g (i-m)) s' X' w':=by
  intro bs sc olds e hlt rB Em FY hold
  have hrun:=run_append_grow_src (P:=P) w T tx ty E ti zv ht.under hi hz bs m sc olds hold yv n news hS hlt (by omega) (growslice_fits hlt (by
   have:(m+n)*ti.bytes<=1073741824*4096:=Nat.mul_le_mul hmax hby
   omega))
  have hge:=grownCap_ge w (m+n) sc E
  have hN:(olds++news).length=(m+n)*ti.size:=by rw[List.length_append,rB,jh,Nat.add_mul]
  have hb0:Below w.heap.size w (w.drew.alloc (.cells (olds++news++(Builtin.zeroCells zv.cells (grownCap w (m+n) sc E-(m+n))).toList).toArray E)):=Below.alloc (Below.drew (Below.refl _ _)) (Nat.le_refl _) _
  have G3:∀{q:Pred} {v:Value},aO q->q w v->q (w.drew.alloc (.cells (olds++news++(Builtin.zeroCells zv.cells (grownCap w (m+n) sc E-(m+n))).toList).toArray E)) v:=λhq hv=>hq _ w _ (AX) hv _ (Ext.bH hb0)
  refine⟨_,λk=>k=w.heap.size,.slice (some ⟨w.heap.size,0,none⟩) (m+n) (grownCap w (m+n) sc E),?_,bX.bH hb0,λk hk=>.inr (by omega),.inr ⟨w.heap.size,_,_,rfl,λ_=>Iff.rfl,heap_alloc_new w.drew _,?_,hge,grownCap_le_maxLen w (m+n) sc E (by unfold maxLen; omega),?_,λi hi=>?_⟩⟩
  ·rw[e,hrun]
   congr 3
   apply Array.ext'
   simp
  ·rw[List.length_append,hN,Array.length_toList,size_zeroCells,hzs,<-Nat.add_mul]
   congr 1; omega
  ·intro u hu
   rcases List.mem_append.1 hu with hu|hu
   ·rcases List.mem_append.1 hu with hu|hu
    ·exact Em u hu
    ·exact(kF u hu).1
   ·exact eK Ew _ u hu
  ·have hle:(i+1)*ti.size<=(m+n)*ti.size:=Nat.mul_le_mul_right _ hi
   rw[Nat.succ_mul]at hle
   rw[List.drop_append_of_le_length (by rw[hN]; omega),List.take_append_of_le_length (by rw[List.length_drop,hN]; omega)]
   by_cases nA:i<m
   ·have yb:(i+1)*ti.size<=m*ti.size:=Nat.mul_le_mul_right _ nA
    rw[Nat.succ_mul]at yb
    simp only[nA,if_true]
    rw[List.drop_append_of_le_length (by omega),List.take_append_of_le_length (by rw[List.length_drop]; omega)]
    exact G3 (hn i) (FY i nA)
   ·simp only[nA,if_false]
    rw[sC rB (by omega)]
    exact G3 (IP _) (rA (i-m) (by omega)).out
 rcases c5 with⟨e,hm0,hX⟩|⟨bb,cap,cur,e,hX,dV,lp,JZ,hcm,AZ,hf⟩
 ·subst hm0
  refine fresh none 0 [] e (by omega) (by simp) (λu hu=>by cases hu) (λi hi=>absurd hi (Nat.not_lt_zero _)) (run_firstCells_none w.drew ti.size 0 0 0)
 ·have nK:(cur.take (m*ti.size)).length=m*ti.size:=by
   rw[List.length_take,lp,Nat.min_eq_left (Nat.mul_le_mul_right _ JZ)]
  have th:∀i,i<m->((cur.take (m*ti.size)).drop (i*ti.size)).take ti.size=(cur.drop (i*ti.size)).take ti.size:=λi hi=>by
   have yb:(i+1)*ti.size<=m*ti.size:=Nat.mul_le_mul_right _ hi
   rw[Nat.succ_mul]at yb
   rw[List.drop_take,List.take_take,Nat.min_eq_left (by omega)]
  by_cases hroom:m+n<=cap
  ·have hN:m*ti.size+n*ti.size<=cap*ti.size:=by
    have:=Nat.mul_le_mul_right ti.size hroom
    rwa [Nat.add_mul]at this
   have hsome:∀j,j<news.length->(w.cell? ⟨bb,0+m*ti.size+j,none⟩).isSome=true:=by
    intro j hj
    simp only[World.cell?,dV]
    rw[List.getElem?_toArray,List.getElem?_eq_getElem (by rw[lp]; omega)]
    rfl
   have hfz:∀j,j<news.length->w.frozen? ⟨bb,0+m*ti.size+j,none⟩=false:=by
    intro j hj
    simp[World.frozen?,dV]
   have hrun:=run_append_room_src (P:=P) w T tx ty E ti ht.under hi bb 0 m cap yv n news hS hroom hsome hfz
   have dm:w.setCells bb (0+m*ti.size) news=w.setRow bb (cur.take (m*ti.size)++news++cur.drop (m*ti.size+news.length)).toArray:=by
    have r1:=run_storeCells_cells (P:=P) bb (0+m*ti.size) news 0 w (by simpa using hsome) (by simpa using hfz) λu hu=>(kF u hu).2
    have r2:=run_storeCells_at P bb (0+m*ti.size) E news 0 cur.toArray w dV (by simp; omega) λu hu=>(kF u hu).2
    rw[r1]at r2
    injection r2 with _ r2
    simpa using r2
   rw[dm]at hrun
   have og:∀j,M bb j:=λj=>Ea bb ((hX bb).2 rfl) j
   have hU:Ext M w (w.setRow bb (cur.take (m*ti.size)++news++cur.drop (m*ti.size+news.length)).toArray):=⟨Nat.le_of_eq size_setRow.symm,λk hk hno=>ai λe'=>hno 0 (by rw[e']; exact og 0),λk o u hno dH=>by
    have ou:k≠bb:=λe'=>hno (by rw[e']; exact og o)
    rw[World.cell?_of_block (w:=w) (a:=⟨k,o,none⟩) (ai ou)]; exact dH⟩
   have G3:∀{q:Pred} {v:Value},aO q->q w v->q (w.setRow bb (cur.take (m*ti.size)++news++cur.drop (m*ti.size+news.length)).toArray) v:=λhq hv=>hq _ w _ (AX) hv _ hU
   refine⟨w.setRow bb (cur.take (m*ti.size)++news++cur.drop (m*ti.size+news.length)).toArray,X,.slice (some ⟨bb,0,none⟩) (m+n) cap,by rw[e,hrun],⟨rfl,rfl,rfl,Nat.le_of_eq size_setRow.symm,λk hk hno=>ai λe'=>hno ((hX k).2 e')⟩,λk hk=>.inl hk,.inr ⟨bb,cap,cur.take (m*ti.size)++news++cur.drop (m*ti.size+news.length),rfl,hX,setRow_heap w _ _ _ _ _ dV,?_,hroom,hcm,λu hu=>?_,λi hi=>?_⟩⟩
   ·rw[List.length_append,List.length_append,nK,List.length_drop,lp,jh]; omega
   ·rcases List.mem_append.1 hu with hu|hu
    ·rcases List.mem_append.1 hu with hu|hu
     ·exact AZ u (List.mem_of_mem_take hu)
     ·exact(kF u hu).1
    ·exact AZ u (List.mem_of_mem_drop hu)
   ·have KY:(cur.take (m*ti.size)++news).length=(m+n)*ti.size:=by rw[List.length_append,nK,jh,Nat.add_mul]
    have hle:(i+1)*ti.size<=(m+n)*ti.size:=Nat.mul_le_mul_right _ hi
    rw[Nat.succ_mul]at hle
    rw[List.drop_append_of_le_length (by rw[KY]; omega),List.take_append_of_le_length (by rw[List.length_drop,KY]; omega)]
    by_cases nA:i<m
    ·have yb:(i+1)*ti.size<=m*ti.size:=Nat.mul_le_mul_right _ nA
     rw[Nat.succ_mul]at yb
     simp only[nA,if_true]
     rw[List.drop_append_of_le_length (by rw[nK]; omega),List.take_append_of_le_length (by rw[List.length_drop,nK]; omega),th i nA]
     exact G3 (hn i) (hf i nA)
    ·simp only[nA,if_false]
     rw[sC nK (by omega)]
     exact G3 (IP _) (rA (i-m) (by omega)).out
  ·refine fresh (some ⟨bb,0,none⟩) cap (cur.take (m*ti.size)) e (by omega) nK (λu hu=>AZ u (List.mem_of_mem_take hu)) (λi hi=>by rw[th i hi]; exact hf i hi) (run_firstCells_some w.drew ti.size m ⟨bb,0,none⟩ m cap _ nK λj u hj=>?_)
   rw[Addr.add_mid,Nat.zero_add]
   have hdr:w.drew.heap=w.heap:=rfl
   simp only[World.cell?,hdr,dV]
   rw[List.getElem?_take]at hj
   split at hj
   ·simpa using hj
   ·cases hj
variable {p:Pred}
theorem ot (AX:cS M w) (Ea:∀k,X k->∀o,M k o) (c5:uf sz m ag E f s X w) (hy:aJ M (λw=>aI sz ag 1 (λ_=>p) w yv) w) (ht:lf P T tx E sz) (hagg:ag=false->sz=1) (hfit:Fits sz ag p) (hn:∀i,aO (f i)) (hnp:aO p) (hmax:m+1<=1073741824):
  ∃(w':World) (X':Nat->Prop) (s':Value),(Builtin.append_ #[T,tx] ty #[s,yv]).run P w=.ok s' w'/\bX X w w'/\(∀k,X' k->X k\/w.heap.size<=k)/\uf sz (m+1) ag E (λi=>if i<m then f i else p) s' X' w':=by
 have e:(λi=>if i<m then f i else p)=λi=>if i<m then f i else(λ_:Nat=>p) (i-m):=rfl
 rw[e]
 exact sX AX Ea c5 hy ht hagg (λ_=>hfit) hn (λ_=>hnp) Nat.one_pos hmax
variable {x:Operand}
theorem tT (h1:Has [0] G 0 x (aG s)) (h2:Has [0] G 0 y (aI sz ag 1 λ_=>p)) (ht:lf P T tx E sz) (hagg:ag=false->sz=1) (hfit:Fits sz ag p) (hn:∀i,aO (f i)) (hnp:aO p) (hmax:m+1<=1073741824)
  (hk:V[n0]?=some (Jd id b sz m ag E f s)) (hV:bE V=true) (hG:bT G=true) (hu:dG V id n0=true) (hd':decide (d<c.N)=true) (AY:(V.all λx=>x.slot != d)=true) (CP:(G.all λx=>x.slot != d)=true):
  ∀a w,Inv c V [] G none_ a w->aW P ops ⟨some d,.call ⟨.builtin .append,#[x,y],#[T,tx]⟩,ty,pos,aft,none⟩ a w λa w=>∃s',Inv c (V.set n0 (cr id id (kT b sz (m+1) ag E (λi=>if i<m then f i else p) s s'))) [] (⟨none,none,d,aG s'⟩::G) none_ a w:=by
 rintro a w ⟨β,hI⟩
 have hB:=CD hI hk
 obtain⟨X,T0,c1,c2,c3,c4,c5⟩:=hB.out
 have hx0:=List.mem_of_getElem? hk
 have dD:∀k,β id k->mine c k:=λk hk'=>(((aB rfl).1 (hI.var _ hx0 rfl)).1 k hk').1
 have hlt:∀k,β id k->k<w.heap.size:=λk hk'=>(((aB rfl).1 (hI.var _ hx0 rfl)).1 k hk').2.1
 have hbl:b<w.heap.size:=hlt b ((c1 b).2 (.inl rfl))
 have ex:a.eval x=s:=(h1.spec hI gl).out
 have Ea:∀k,X k->∀o,own c V none_ β k o:=λk hk o=>.inr ⟨_,hx0,rfl,(c1 k).2 (.inr hk),Nat.zero_le _⟩
 obtain⟨w',X',s',hr,hle,FT,hgr⟩:=ot (ty:=ty) (yv:=a.eval y) (aF hI) Ea c5 (h2.spec hI gl) ht hagg hfit hn hnp hmax
 rw[<-ex]at hr
 refine .of rfl (di hr ?_)
 have hb':w'.heap[b]?=w.heap[b]?:=hle.block b hbl c2
 have GR:¬X' b:=λh=>(FT b h).elim c2 λh=>absurd hbl (Nat.not_lt.2 h)
 have hrel:kT b sz (m+1) ag E (λi=>if i<m then f i else p) s s' (λk=>k=b\/X' k) w' (sl a id):=⟨X',T0,λ_=>Iff.rfl,GR,hb'.trans c3,c4,hgr⟩
 have hm:=hI.move (B':=λk=>k=b\/X' k) (R':=kT b sz (m+1) ag E (λi=>if i<m then f i else p) s s') (w':=w') hV hG hk (cX hu) ⟨hle.os,hle.tape,hle.output,hle.size,λk hk hn=>hle.block k hk λh=>hn ((c1 k).2 (.inr h))⟩ (λk hk=>hk.elim (λe=>.inl ((c1 k).2 (.inl e))) λh=>(FT k h).imp (λh=>(c1 k).2 (.inr h)) λh=>h) (my hrel) ?_
 ·refine⟨s',_,hm.qo (of_decide_eq_true hd') (λx hx=>?_) (λe he=>by rw[List.all_eq_true]at CP; simpa using CP e he) λ_ _=>rfl⟩
  rw[List.all_eq_true]at AY
  rcases List.mem_or_eq_of_mem_set hx with hx|rfl
  ·simpa using AY x hx
  ·simpa using AY _ hx0
 ·intro w'' he
  have fg:cS (λk o=>own c V none_ β k o/\¬(k=b\/X k)) w':=λk o hk=>by
   obtain⟨k1,k2⟩:=aF hI k o hk.1
   exact⟨Nat.lt_of_lt_of_le k1 hle.size,λu dH=>k2 u (by rw[<-World.cell?_of_block (w:=w) (w':=w') (a:=⟨k,o,none⟩) (hle.block k k1 λh=>hk.2 (.inr h))]; exact dH)⟩
  have Mm:Ext (λk o=>own c V none_ β k o/\¬(k=b\/X k)) w' w'':=he.mono' λk o hk=>⟨hk.1,λh=>hk.2 ((c1 k).2 h)⟩
  have hnb:∀k,k=b\/X' k->∀o,¬minus (own c V none_ β) (β id) k o:=λk hk o ho=>by
   rcases hk with rfl|hk
   ·exact ho.2 ((c1 k).2 (.inl rfl))
   ·rcases FT k hk with h|h
    ·exact ho.2 ((c1 k).2 (.inr h))
    ·exact absurd (aF hI k o ho.1).1 (Nat.not_lt.2 h)
  exact⟨X',T0,λ_=>Iff.rfl,GR,(he.block b (Nat.lt_of_lt_of_le hbl hle.size) (hnb b (.inl rfl))).trans (hb'.trans c3),c4,hgr.keep (λi=>by by_cases h:i<m<;>simp only[h,if_true,if_false]; exact hn i; exact hnp) fg Mm λk hk=>he.block k (my hrel k (.inr hk)).1 (hnb k (.inr hk))⟩
variable {z:Operand}
theorem wM (hk:V[n0]?=some (cr id id (kT b sz m ag E f s0 s))) (h1:Has [0] G 0 y (aG (.pointer (some ⟨b,0,none⟩)))) (h2:Has [0] G 0 z (aG s)) (ht:Ty P T false 1) (hn:∀i,aO (f i)) (hV:bE V=true) (hG:bT G=true) (hu:dG V id n0=true):
  ∀a w,Inv c V [] G none_ a w->aW P ops ⟨none,.store T y z,ty,pos,aft,none⟩ a w (Inv c (V.set n0 (kE id b sz m ag E f)) [] G none_):=by
 rintro a w ⟨β,hI⟩
 obtain⟨X,T0,c1,c2,c3,c4,c5⟩:=(CD hI hk).out
 have ey:a.eval y=.pointer (some ⟨b,0,none⟩):=(h1.spec hI gl).out
 have ez:a.eval z=s:=(h2.spec hI gl).out
 obtain⟨A',l',cp,es⟩:∃A' l' cp,s=.slice A' l' cp:=by
  rcases c5 with⟨e,_⟩|⟨bb,cap,cur,e,_⟩
  ·exact⟨_,_,_,e⟩
  ·exact⟨_,_,_,e⟩
 have kF:dB s:=by rw[es]; exact bu _ _ _
 have hr:(execOp a.eval ⟨none,.store T y z,ty,pos,aft,none⟩).run P w=.ok .skip (w.setRow b #[s]):=by
  show(do Instr.storeAt T (a.eval y) (a.eval z); pure Next.skip).run P w=_
  rw[ey,ez]
  have:=er (P:=P) (off:=0) (cs:=[s]) (v:=s) ht (old:=[s0]) c3 (by rw[es]; rfl) rfl (by simp) (λu hu=>by rw[List.mem_singleton.1 hu,es]; rfl)
  simp only[Sem.run_bind,this,Result.andThen_ok,Sem.run_pure]
  rfl
 have hx0:=List.mem_of_getElem? hk
 have hgx:β id b:=(c1 b).2 (.inl rfl)
 have og:∀j,own c V none_ β b j:=λj=>.inr ⟨_,hx0,rfl,hgx,Nat.zero_le _⟩
 have hU:Ext (own c V none_ β) w (w.setRow b #[s]):=⟨Nat.le_of_eq size_setRow.symm,λk hk hno=>ai λe'=>hno 0 (by rw[e']; exact og 0),λk o u hno dH=>by
  have ou:k≠b:=λe'=>hno (by rw[e']; exact og o)
  rw[World.cell?_of_block (w:=w) (a:=⟨k,o,none⟩) (ai ou)]; exact dH⟩
 have K6:∀k,X k->(w.setRow b #[s]).heap[k]?=w.heap[k]?:=λk hk=>ai λe=>c2 (e▸hk)
 have hrel:kT b sz m ag E f s s (β id) (w.setRow b #[s]) (sl a id):=⟨X,T0,c1,c2,setRow_heap w _ _ _ _ _ c3,kF,c5.keep hn (aF hI) hU K6⟩
 refine .of rfl ?_
 unfold Does
 rw[hr]
 refine⟨_,hI.move (B':=β id) (R':=F4 b sz m ag E f) (w':=w.setRow b #[s]) hV hG hk (cX hu) ⟨rfl,rfl,rfl,Nat.le_of_eq size_setRow.symm,λk hk hn=>ai λe=>hn (e▸hgx)⟩ (λk hk=>.inl hk) (my hrel) ?_⟩
 intro w'' he
 have hlt:∀k,β id k->k<(w.setRow b #[s]).heap.size:=λk hk=>(my hrel k hk).1
 have hb:∀k,β id k->w''.heap[k]?=(w.setRow b #[s]).heap[k]?:=λk hk=>he.block k (hlt k hk) λo ho=>ho.2 hk
 obtain⟨_,_,_,_,d3,_,d5⟩:=hrel
 have fg:cS (minus (own c V none_ β) (β id)) (w.setRow b #[s]):=λk o hk=>by
  obtain⟨k1,k2⟩:=aF hI k o hk.1
  exact⟨by rw[size_setRow]; exact k1,λu dH=>k2 u (by rw[<-World.cell?_of_block (w:=w) (w':=w.setRow b #[s]) (a:=⟨k,o,none⟩) (ai (show k≠b fromλe=>hk.2 (by rw[e]; exact hgx)))]; exact dH)⟩
 exact⟨s,X,T0,c1,c2,(hb b hgx).trans (setRow_heap w _ _ _ _ _ c3),kF,(c5.keep hn (aF hI) hU K6).keep hn fg he λk hk=>hb k ((c1 k).2 (.inr hk))⟩
theorem Jf {T2 zU:TypeId} {pos2:String} {mm:Array Edge} (f':Nat->Pred) (hf':∀i w v,(if i<m then f i else p) w v->i<m+1->f' i w v) (hk:V[n0]?=some (Jd id b sz m ag E f s):=by exact rfl) (h1:Has [0] G 0 x (aG s):=by exact hs) (h2:Has [0] G 0 y (aI sz ag 1 λ_=>p):=by exact hs) (h3:∀s',Has [0] (⟨none,none,d,aG s'⟩::G) 0 z (aG (.pointer (some ⟨b,0,none⟩))):=by intro s'; exact hs) (hmax:m+1<=1073741824:=by omega)
  (rA:∀i,aO (f i):=by intro i; exact IZ) (hnp:aO p:=by exact IZ) (hfit:Fits sz ag p:=by exact pz) (hagg:ag=false->sz=1:=by intro h; first|cases h|rfl) (ht:xn P T tx E sz=true:=by kernel_rfl) (MH:wQ P T2 false 1=true:=by kernel_rfl) (hV:bE V=true:=by kernel_rfl) (hG:bT G=true:=by kernel_rfl) (hu:dG V id n0=true:=by kernel_rfl) (hd':decide (d<c.N)=true:=by kernel_rfl) (AY:(V.all λx=>x.slot != d)=true:=by kernel_rfl) (CP:(G.all λx=>x.slot != d)=true:=by kernel_rfl):
  gL P ops (Inv c V [] G none_) [⟨some d,.call ⟨.builtin .append,#[x,y],#[T,tx]⟩,ty,pos,aft,none⟩,⟨none,.store T2 z (.tmp d),zU,pos2,mm,none⟩] (Inv c (V.set n0 (kE id b sz (m+1) ag E f')) [] G none_):=by
 have hn0:=(List.getElem?_eq_some_iff.1 hk).1
 refine⟨_,tT h1 h2 (ir ht) hagg hfit rA hnp hmax hk hV hG hu hd' AY CP,_,λa w h=>?_,rfl⟩
 obtain⟨s',hI⟩:=h
 have dm:∀(l:List Vr) (x y:Vr),(l.set n0 x).set n0 y=l.set n0 y:=λl x y=>by simp
 have vN:∀{R:Rel},bE (V.set n0 (cr id id R))=true:=λ{R}=>by
  unfold bE at hV ⊢
  rw[List.all_eq_true]at hV ⊢
  intro x hx
  rcases List.mem_or_eq_of_mem_set hx with hx|rfl
  ·exact hV x hx
  ·rfl
 have Lg:∀{R:Rel},dG (V.set n0 (cr id id R)) id n0=true:=λ{R}=>by
  unfold dG
  rw[List.all_eq_true]
  rintro⟨y,q⟩ hy
  have hy:=List.mem_iff_getElem?.1 hy
  obtain⟨i,hi⟩:=hy
  simp only[List.getElem?_zipIdx,Option.map_eq_some_iff]at hi
  obtain⟨y',hy',e⟩:=hi
  simp only[Prod.mk.injEq]at e
  obtain⟨rfl,rfl⟩:=e
  by_cases hin:i=n0
  ·subst hin; simp
  ·rw[List.getElem?_set_ne (Ne.symm hin)]at hy'
   have:=cX hu y' i hy'
   by_cases hid:y'.id=id
   ·exact absurd (this hid) hin
   ·simp[hid]
 have hg:bT (⟨none,none,d,aG s'⟩::G)=true:=by unfold bT at hG ⊢; rw[List.all_cons,hG]; rfl
 have hst:=wM (ops:=ops) (n0:=n0) (T:=T2) (ty:=zU) (pos:=pos2) (aft:=mm) (V:=V.set n0 (cr id id (kT b sz (m+1) ag E (λi=>if i<m then f i else p) s s'))) (by rw[List.getElem?_set_self hn0]) (h3 s') (.tmp 0 rfl rfl) (bV MH) (λi=>by by_cases h:i<m<;>simp only[h,if_true,if_false]; exact rA i; exact hnp) vN hg Lg a w hI
 rw[dm]at hst
 unfold aW at hst ⊢
 simp only[Region.wanted]at hst ⊢
 refine Does.mono hst λa w ⟨β,h⟩=>⟨β,?_⟩
 have h:=h.C5 (G':=G) λe he=>List.mem_cons_of_mem _ he
 have hx0:(V.set n0 (kE id b sz (m+1) ag E λi=>if i<m then f i else p))[n0]?=some (kE id b sz (m+1) ag E λi=>if i<m then f i else p):=by rw[List.getElem?_set_self hn0]
 have hB:aJ (minus (own c (V.set n0 (kE id b sz (m+1) ag E λi=>if i<m then f i else p)) none_ β) (β id)) (λw=>F4 b sz (m+1) ag E (λi=>if i<m then f i else p) (β id) w (sl a id)) w:=((aB rfl).1 (h.var _ (List.mem_of_getElem? hx0) rfl)).2
 have hm:=h.move (B':=β id) (R':=F4 b sz (m+1) ag E f') vN hG hx0 (cX Lg) (bX.refl _ _) (λk hk=>.inl hk) (λk hk=>(((aB rfl).1 (h.var _ (List.mem_of_getElem? hx0) rfl)).1 k hk).2) (hB.imp λw ⟨s,X,T,k1,k2,k3,k4,k5⟩=>⟨s,X,T,k1,k2,k3,k4,k5.imp (λh=>h) λ⟨bb,cap,cur,j1,j2,j3,j4,j5,j6,j7,j8⟩=>⟨bb,cap,cur,j1,j2,j3,j4,j5,j6,j7,λi hi=>hf' i _ _ (j8 i hi) hi⟩⟩)
 rw[dm]at hm
 have eβ:gW β id (β id)=β:=by
  funext q
  by_cases hq:q=id
  ·subst hq; exact gJ
  ·exact kr hq
 rw[eβ]at hm
 exact hm
theorem oX {F:Nat->Pred} (hp:∀w v,p w v->F m w v):∀i w v,(if i<m then F i else p) w v->i<m+1->F i w v:=λi w v h hi=>by
 by_cases nA:i<m
 ·rw[if_pos nA]at h; exact h
 ·rw[if_neg nA]at h
  have e:i=m:=by omega
  subst e
  exact hp w v h
theorem Fz (hI:Inv c V [] G none_ a w) (k:Nat) (hk:V[k]?=some (kE i b sz m ag E f)) (hu:((V.eraseIdx k).all λy=>y.id != i)=true) (h1:dz i G=some (aG (.pointer (some ⟨b,0,none⟩))):=by exact rfl):Inv c (V.eraseIdx k) [] (⟨none,none,i,dM 1 false (aI sz ag m f)⟩::G) none_ a w:=by
 obtain⟨β,h⟩:=hI
 have hx:=List.mem_of_getElem? hk
 have hsub:∀y,y∈V.eraseIdx k->y∈V/\y.id≠i:=λy hy=>⟨List.mem_of_mem_eraseIdx hy,by
  have:=List.all_eq_true.1 hu y hy
  simpa using this⟩
 have hO:=(aB rfl).1 (h.var _ hx rfl)
 have hB:aJ (minus (own c V none_ β) (β i)) (λw=>F4 b sz m ag E f (β i) w (sl a i)) w:=hO.2
 have dD:∀k,β i k->mine c k:=λk hk'=>(hO.1 k hk').1
 obtain⟨k1,td⟩:=cx h1
 have es:sl a i=.pointer (some ⟨b,0,none⟩):=(h.ew _ (List.mem_of_getElem? td) rfl rfl).out
 have eo:∀k' o,own c (V.eraseIdx k) none_ β k' o->minus (own c V none_ β) (β i) k' o:=by
  rintro k' o (hM|⟨y,hy,q1,q2,q3⟩)
  ·exact⟨.inl hM,λhb=>eX h (dD k' hb) hM⟩
  ·obtain⟨hy,hid⟩:=hsub y hy
   exact⟨.inr ⟨y,hy,q1,q2,q3⟩,λhb=>h.apart y _ k' hy hx q1 rfl hid q2 hb⟩
 refine⟨β,h.size,h.defers,h.below,h.old,λy hy hl=>(h.var y (hsub y hy).1 hl).keep rfl rfl (λ_ _=>rfl) (Nat.le_refl _) (λF hF=>hF.sub λk o _ hh=>(eo k o hh).1) (λF hF=>hF.sub λk o _ hh=>⟨(eo k o hh.1).1,hh.2⟩) rfl,λy z g hy hz=>h.apart y z g (hsub y hy).1 (hsub z hz).1,(λp hp=>by cases hp),λe he ho hf'=>?_⟩
 rcases List.mem_cons.1 he with rfl|he
 ·intro w' hw'
  show dM 1 false (aI sz ag m f) w' (sl a i)
  rw[es]
  obtain⟨s,X,T,c1,c2,c3,c4,c5⟩:=hB w' (hw'.mono λk o _ hh=>eo k o hh)
  refine⟨b,0,[s],rfl,rfl,λj v hj=>?_,?_⟩
  ·simp only[World.cell?,c3]
   rw[Nat.zero_add]
   simpa using hj
  ·show aI sz ag m f w' s
   rcases c5 with⟨e,hm,_⟩|⟨bb,cap,cur,e,_,d3,d4,d5,d6,_,d8⟩
   ·subst e hm
    exact⟨none,0,rfl,Nat.le_refl _,Nat.zero_le _,λh=>absurd h (Nat.lt_irrefl 0)⟩
   ·subst e
    refine⟨_,cap,rfl,d5,d6,λ_=>⟨bb,0,rfl,λq hq=>⟨(cur.drop (q*sz)).take sz,?_,λj v hj=>?_,d8 q hq⟩⟩⟩
    ·have:=Nat.mul_le_mul_right sz (Nat.lt_of_lt_of_le hq d5)
     rw[Nat.succ_mul]at this
     rw[List.length_take,List.length_drop]
     omega
    ·rw[Nat.zero_add]
     exact gw d3 _ _ j v hj
 ·exact(h.ew e he ho hf').sub λk o _ hh=>(eo k o hh).1
def Ls (sz m:Nat) (ag:Bool) (E:TypeId) (f:Nat->Pred) (s:Value):Rel:=λB w _=>uf sz m ag E f s B w
abbrev mD (id sz m:Nat) (ag:Bool) (E:TypeId) (f:Nat->Pred) (s:Value):Vr:=cr id id (Ls sz m ag E f s)
theorem xR {w:World} (h:uf sz m ag E f s B w):∀k,B k->k<w.heap.size/\∀o v,w.cell? ⟨k,o,none⟩=some v->dB v:=by
 intro k hk
 rcases h with⟨_,_,h6⟩|⟨bb,cap,cur,_,k2,k3,_,_,_,k7,_⟩
 ·exact absurd hk (h6 k)
 ·have:=(k2 k).1 hk
  subst this
  refine⟨(Array.getElem?_eq_some_iff.1 k3).1,λo v hc=>?_⟩
  simp only[World.cell?,k3]at hc
  have:cur[o]?=some v:=by simpa using hc
  exact k7 v (List.mem_of_getElem? this)
theorem F7 {V:List Vr} {N m':Nat} {f':Nat->Pred} (hm:m=m':=by first|rfl|omega) (hf:∀i,i<m->∀w v,f i w v->f' i w v:=by exactλ_ _ _ _ h=>h) (h:ia N V=some (mD N sz m ag E f s):=by exact rfl):∃r:Rel,ia (mD N sz m' ag E f' s).id V=some ⟨(mD N sz m' ag E f' s).id,(mD N sz m' ag E f' s).slot,none,none,(mD N sz m' ag E f' s).kd,(mD N sz m' ag E f' s).T,(mD N sz m' ag E f' s).n,(mD N sz m' ag E f' s).agg,r,[]⟩/\((mD N sz m' ag E f' s).born=none/\(mD N sz m' ag E f' s).dead=none/\(mD N sz m' ag E f' s).st=[])/\∀F w v,r F w v->(mD N sz m' ag E f' s).c0 F w v:=by
 subst hm
 refine⟨_,h,⟨rfl,rfl,rfl⟩,λF w v h5=>h5.imp (λh=>h) ?_⟩
 rintro⟨bb,cap,cur,k1,k2,k3,k4,k5,k6,k7,k8⟩
 exact⟨bb,cap,cur,k1,k2,k3,k4,k5,k6,k7,λi hi=>hf i hi _ _ (k8 i hi)⟩
theorem C6 (f:Nat->Pred) (hI:Inv c V [] G none_ a w) (hid:(V.all λy=>y.id != id)=true:=by kernel_rfl):Inv c (V++[mD id sz 0 ag E f (.slice none 0 0)]) [] G none_ a w:=by
 obtain⟨β,h⟩:=hI
 rw[List.all_eq_true]at hid
 have hne:∀y,y∈V->y.id≠id:=λy hy=>by simpa using hid y hy
 have e1:∀y,y∈V->gW β id (λ_=>False) y.id=β y.id:=λy hy=>kr (hne y hy)
 have eN:∀k,¬gW β id (λ_=>False) id k:=λk hk=>by rw[gJ]at hk; exact hk
 have hmem:∀y,y∈V++[mD id sz 0 ag E f (.slice none 0 0)]->y∈V\/y=mD id sz 0 ag E f (.slice none 0 0):=λy hy=>by simpa using hy
 have hown:∀k o,own c (V++[mD id sz 0 ag E f (.slice none 0 0)]) none_ (gW β id λ_=>False) k o->own c V none_ β k o:=by
  rintro k o (h1|⟨y,hy,h1,h2,h3⟩)
  ·exact .inl h1
  ·rcases hmem y hy with hy|rfl
   ·rw[e1 y hy]at h2
    exact .inr ⟨y,hy,h1,h2,h3⟩
   ·exact absurd h2 (eN k)
 refine⟨gW β id λ_=>False,h.size,h.defers,h.below,h.old,λy hy hl=>?_,λy y' g hy hy' hl hl' He=>?_,(λp hp=>by cases hp),λe he ho hf=>(h.ew e he ho hf).sub λk o _ hk=>hown k o hk⟩
 ·rcases hmem y hy with hy|rfl
  ·exact(h.var y hy hl).keep rfl (e1 y hy) (λ_ _=>rfl) (Nat.le_refl _) (λ_ hF=>hF.sub λk o _ hk=>hown k o hk) (λ_ hF=>hF.sub λk o _ hk=>⟨hown k o hk.1,hk.2⟩) rfl
  ·exact(aB rfl).2 ⟨λk hk=>absurd hk (eN k),λ_ _=>.inl ⟨rfl,rfl,eN⟩⟩
 ·rcases hmem y hy with hy|rfl<;>rcases hmem y' hy' with hy'|rfl
  ·rw[e1 y hy,e1 y' hy']
   exact h.apart y y' g hy hy' hl hl' He
  ·exactλ_=>eN g
  ·exactλh2=>absurd h2 (eN g)
  ·exact absurd rfl He
end
end Wx
