import Derived.IntWalk
import Derived.Test.YtikkgpljpglnbaaGreatJRM12
namespace Wx
open Go Go.RowKit
def dD (sz:Nat) (agg:Bool) (p:Pred):Pred:=λw v=>∃(b o:Nat) (cs:List Value),v=.pointer (some ⟨b,o,none⟩)/\cs.length=sz/\(∀j u,cs[j]?=some u->w.cell? ⟨b,o+j,none⟩=some u)/\p w (au agg cs)
def bK (sz:Nat) (agg:Bool) (n:Nat) (f:Nat->Pred):Pred:=λw v=>∃(A:Option Addr) (cap:Nat),v=.slice A n cap/\n<=cap/\cap<=maxLen /\
 (0<n->∃b o:Nat,A=some ⟨b,o,none⟩/\∀i,i<n->∃cs:List Value,cs.length=sz/\(∀j u,cs[j]?=some u->w.cell? ⟨b,o+i*sz+j,none⟩=some u)/\f i w (au agg cs))
variable {M:Nat->Nat->Prop} {w:World} {b o:Nat}
theorem xM {F:World->Prop} {u:Value} (h:aM M F w) (hc:w.cell? ⟨b,o,none⟩=some u) (hno:∀w':World,w'.cell? ⟨b,o,none⟩=some (.int .u64 0)->¬F w'):¬M b o:=by
 intro hm
 have hb:=World.block_lt_of_cell? w _ hc
 simp only[World.cell?]at hc
 cases hbl:w.heap[b]? with
 |none=>rw[hbl]at hc; simp at hc
 |some bl=>
  rw[hbl]at hc
  cases bl with
  |cells cs t fz=>
   simp only at hc
   have ho:o<cs.size:=by
    rcases Nat.lt_or_ge o cs.size with h'|h'
    ·exact h'
    ·rw[Array.getElem?_eq_none h']at hc; simp at hc
   have e:w.heap.setIfInBounds b (.cells (cs.setIfInBounds o (.int .u64 0)) t fz)=w.heap.setIfInBounds b (.cells (cs.setIfInBounds o (.int .u64 0)) t fz):=rfl
   refine hno { w with heap:=w.heap.setIfInBounds b (.cells (cs.setIfInBounds o (.int .u64 0)) t fz) } ?_ (h _ ⟨?_,?_,?_⟩)
   ·simp[World.cell?,hb,ho]
   ·simp
   ·intro k hk hnm
    have hne:b≠k:=λe=>hnm o (e▸hm)
    simp[Array.getElem?_setIfInBounds_ne hne]
   ·intro k j v hnm hv
    by_cases hk:k=b
    ·subst hk
     have hne:o≠j:=λe=>hnm (e▸hm)
     simp only[World.cell?,hbl]at hv
     simp only[World.cell?,Array.getElem?_setIfInBounds_self_of_lt hb]
     simpa [Array.getElem?_setIfInBounds_ne hne] using hv
    ·rw[World.cell?_of_block (w:=w) (by simp[Array.getElem?_setIfInBounds_ne (λe=>hk e.symm)])]
     exact hv
  |_=>simp at hc
theorem E4 {w':World} (he:Ext M w w') {b o:Nat} {u:Value} (h:w.cell? ⟨b,o,none⟩=some u) (hm:¬M b o):w'.cell? ⟨b,o,none⟩=some u:=he.cell b o u hm h
theorem jE {cs ds:List Value} (hl:cs.length=ds.length) (h1:∀j u,cs[j]?=some u->w.cell? ⟨b,o+j,none⟩=some u) (h2:∀j u,ds[j]?=some u->w.cell? ⟨b,o+j,none⟩=some u):cs=ds:=by
 apply List.ext_getElem hl
 intro i hi hi'
 have e1:=h1 i _ (List.getElem?_eq_getElem hi)
 have e2:=h2 i _ (List.getElem?_eq_getElem hi')
 rw[e1]at e2
 injection e2
theorem zo {sz:Nat} {agg:Bool} {p:Pred} {v:Value} (h1:agg=false->sz=1) (hf:Fits sz agg p) (h:aM M (λw=>dD sz agg p w v) w):
  ∃(b o:Nat) (cs:List Value),v=.pointer (some ⟨b,o,none⟩)/\cs.length=sz/\(∀j u,cs[j]?=some u->w.cell? ⟨b,o+j,none⟩=some u)/\aM M (λw=>p w (au agg cs)) w:=by
 obtain⟨b,o,cs,rfl,hl,hc,hp⟩:=h.out
 have C8:∀{cs ds:List Value},cs.length=sz->ds.length=sz->au agg cs=au agg ds->cs=ds:=by
  intro cs ds e1 e2 e
  cases agg with
  |true=>exact cg e
  |false=>
   have:=h1 rfl
   match cs,ds,e1,e2 with
   |[x],[y],_,_=>simp only[au,Bool.false_eq_true,if_false,List.headD_cons]at e; rw[e]
   |[],_,e1,_=>simp at e1; omega
   |_::_::_,_,e1,_=>simp at e1; omega
   |[_],[],_,e2=>simp at e2; omega
   |[_],_::_::_,_,e2=>simp at e2; omega
 have hm:∀j u,cs[j]?=some u->¬M b (o+j):=λj u hj=>xM h (hc j u hj) (by
  rintro w' hw' ⟨b',o',cs',e,hl',hc',hp'⟩
  injection e with e
  injection e with e
  injection e with e2 e3
  subst e2 e3
  obtain⟨ds,e4,hl4,_,h4⟩:=hf w' _ hp'
  have e5:=C8 hl' hl4 e4
  subst e5
  have hj':j<cs'.length:=by
   rcases Nat.lt_or_ge j cs.length with h'|h'
   ·omega
   ·rw[List.getElem?_eq_none h']at hj; cases hj
  have h6:=hc' j _ (List.getElem?_eq_getElem hj')
  rw[hw']at h6
  injection h6 with h6
  exact((h4 _ (List.getElem_mem hj')).1 0).1 h6.symm)
 refine⟨b,o,cs,rfl,hl,hc,λw' he=>?_⟩
 obtain⟨b',o',cs',e,hl',hc',hp'⟩:=h w' he
 injection e with e
 injection e with e
 injection e with e1 e2
 subst e1 e2
 have:cs=cs':=jE (by omega) (λj u hj=>E4 he (hc j u hj) (hm j u hj)) hc'
 rw[this]; exact hp'
structure pD (P:Program) (T:TypeId) (E:TypeId) (sz:Nat):Prop where
 under:P.underlying T=some (.slice E)
 size:∀w,(Go.sizeOf E).run P w=.ok sz w
section
variable {P:Program} {ops:Array Oper} {ms:List Nat} {c:cM} {V:List Vr} {A:List Al} {G:List aV} {i:Nat} {L:Nat->Bool} {β:Nat->Nat->Prop} {a:Act} {w:World} {o:Oper}{d:Nat} {x y z:Operand} {ty:TypeId} {pos:String} {aL:Array Edge}{T:TypeId} {sz:Nat} {agg:Bool} {p:Pred}
theorem Gr (h:Has ms G i x (dD sz agg p)) (ht:Ty P T agg sz) (hfit:Fits sz agg p) (hp:Post G i p):OpOk P ops ms c V A G i ⟨some d,.load T x,ty,pos,aL,none⟩:=
 cq rfl rfl rfl (.inl rfl) hp λL β a w hI hd=>by
  obtain⟨b,o,cs,e,hl,hc,hb⟩:=zo ht.one hfit (h.spec hI hd)
  refine⟨_,w,?_,Below.refl _ _,hb⟩
  show(do pure (Next.value (<-Instr.loadAt T (a.eval x)))).run P w=_
  rw[e,Sem.run_bind,eO ht hc hl]
  rfl
variable {E:TypeId} {n:Nat} {m:Int}
theorem lG {b off cap:Nat} (ht:pD P T E sz) (h0:0<=m) (h1:m<n):(Instr.indexAt T (.slice (some ⟨b,off,none⟩) n cap) (.int .i64 m)).run P w=.ok (.pointer (some ⟨b,off+m.toNat*sz,none⟩)) w:=by
 have hu:(underlying T).run P w=.ok (.slice E) w:=run_underlying ht.under w
 simp only[Instr.indexAt,asIntOf,pure_bind,Sem.run_bind,hu,Result.andThen_ok]
 rw[if_pos ⟨h0,h1⟩]
 simp only[Sem.run_bind,ht.size,Result.andThen_ok,Sem.run_pure,Addr.add_mid]
variable {f:Nat->Pred}
theorem zg (h:Has ms G i x (bK sz agg n f)) (hy:Has ms G i y (pI m)) (ht:pD P T E sz) (h0:0<=m) (h1:m<n) (hA:(A.all λq=>q.tag != some i)=true) (hp:Post G i (dD sz agg (f m.toNat))):
  OpOk P ops ms c V A G i ⟨some d,.indexAddr T x y,ty,pos,aL,none⟩:=
 cq rfl rfl rfl (.inr hA) hp λL β a w hI hd=>by
  have hr:=h.spec hI hd
  have hi:a.eval y=.int .i64 m:=(hy.spec hI hd).out
  obtain⟨A',cap,e,hn,hcap,hel⟩:=hr.out
  obtain⟨b,off,rfl,_⟩:=hel (by omega)
  refine⟨.pointer (some ⟨b,off+m.toNat*sz,none⟩),w,?_,Below.refl _ _,λw' he=>?_⟩
  ·show(do pure (Next.value (<-Instr.indexAt T (a.eval x) (a.eval y)))).run P w=_
   rw[e,hi,Sem.run_bind,lG ht h0 h1]
   rfl
  ·obtain⟨A2,dY,e2,_,_,Sc⟩:=hr w' he
   rw[e]at e2
   injection e2 with e2
   obtain⟨b2,W7,e3,Sd⟩:=Sc (by omega)
   rw[<-e2]at e3
   injection e3 with e3
   injection e3 with e4 e5
   subst e4 e5
   obtain⟨cs,h2,h3,h4⟩:=Sd m.toNat (by omega)
   exact⟨_,_,cs,rfl,h2,h3,h4⟩
theorem MM (h:Has ms G i x (bK sz agg n f)) (ht:P.underlying T=some (.slice E)) (hp:Post G i (pI (n:Int))):
  OpOk P ops ms c V A G i ⟨some d,.call ⟨.builtin .len,#[x],#[T]⟩,ty,pos,aL,none⟩:=
 iT rfl rfl rfl rfl h hp λρ w h=>⟨.int .i64 n,by
  obtain⟨A',cap,e,_⟩:=h
  have hr:(Builtin.len_ #[T] ty #[ρ x]).run P w=.ok (.int .i64 n) w:=by
   rw[e]
   unfold Builtin.len_
   simp[run_underlying ht,goInt]
  show(do let d <-resolve ρ ⟨.builtin .len,#[x],#[T]⟩ ty; invoke d.target d.args).run P w=_
  simp only[resolve,invoke,pure_bind,builtin]
  rw[show(#[x]:Array Operand).map ρ=#[ρ x] by simp,Sem.run_bind,hr]
  rfl,λ_ _=>rfl⟩
variable {fs:List Fd}
theorem Ee {w:World} {g:Nat} {fz:Nat×Nat} {cs:List Value} (hg:w.heap[g]?=some (.cells cs.toArray T fz)) (hc:aI fs w cs) (hf:∀f∈fs,f.agg=agg/\f.n=sz) (hlen:fs.length<=maxLen) (p:Nat->Pred) (hp:∀(k:Nat) (f:Fd),fs[k]?=some f->f.p=p k):
  bK sz agg fs.length p w (.slice (some ⟨g,0,none⟩) fs.length fs.length):=by
 have hoff:∀(fs:List Fd),(∀f∈fs,f.agg=agg/\f.n=sz)->∀k,k<=fs.length->bg fs k=k*sz:=by
  intro fs
  induction fs with
  |nil=>intro _ k hk; simp at hk; subst hk; simp[bg]
  |cons f fs ih=>
   intro h k hk
   cases k with
   |zero=>simp[bg]
   |succ k=>
    have h1:=(h f (by simp)).2
    have h2:=ih (λg hg=>h g (List.mem_cons_of_mem _ hg)) k (by simp at hk; omega)
    simp only[bg,h1,h2]
    rw[Nat.add_mul,Nat.one_mul,Nat.add_comm]
 refine⟨_,_,rfl,Nat.le_refl _,hlen,λ_=>⟨g,0,rfl,λi hi=>?_⟩⟩
 have hk:=List.getElem?_eq_getElem hi
 obtain⟨e1,e2⟩:=hf _ (List.getElem_mem hi)
 have Pd:=tn hc hk
 have htot:=jY hc
 have hsz:∀(fs:List Fd),(∀f∈fs,f.agg=agg/\f.n=sz)->kC fs=fs.length*sz:=by
  intro fs
  induction fs with
  |nil=>intro _; simp[kC]
  |cons f fs ih=>intro h; simp only[kC,(h f (by simp)).2,ih (λg hg=>h g (List.mem_cons_of_mem _ hg)),List.length_cons,Nat.add_mul,Nat.one_mul]; omega
 have hs:=hsz fs hf
 have FA:=hoff fs hf i (by omega)
 have hle:i*sz+sz<=fs.length*sz:=by
  have:(i+1)*sz<=fs.length*sz:=Nat.mul_le_mul_right _ hi
  rw[Nat.add_mul,Nat.one_mul]at this; exact this
 refine⟨(cs.drop (i*sz)).take sz,by simp; omega,λj u hj=>?_,?_⟩
 ·have:=iq hg (i*sz) sz j u hj
  rwa [Nat.zero_add]
 ·rw[FA,e1,e2]at Pd
  rw[<-hp i _ hk]
  exact Pd
def P3 (sz:Nat) (agg:Bool) (n:Nat) (f:Nat->Pred):Pred:=λw v=>(∃A:Option Addr,v=.slice A n n)/\bK sz agg n f w v
variable {parts:Array (Nat×Operand)} {zv:Value} {gs:List Fd} {ps:List (Nat×Pred)}
theorem tf {z:List Value} (ht:pD P T E sz) (DC:∀w,(zeroValue E).run P w=.ok zv w) (AR:zv.cells=z.toArray)
  (Hy:fs=List.replicate n ⟨agg,sz,p⟩) (hsz:decide (0<sz/\0<n/\n*sz<=16777216)=true) (hz:∀w,p w (au agg z)) (xw:z.length=sz) (hps:dI ms G i fs parts.toList ps) (hg:mF fs ps=gs) (q:Nat->Pred) (hq:∀(k:Nat) (f:Fd),gs[k]?=some f->f.p=q k) (hp:Post G i (P3 sz agg n q)):
  OpOk P ops ms c V A G i ⟨some d,.buildSlice T n parts,ty,pos,aL,none⟩:=
 cq rfl rfl rfl (.inl rfl) hp λL β a w hI hd=>by
  obtain⟨hs0,AJ,Sr⟩:=of_decide_eq_true hsz
  have key:∀(xs:List (Nat×Operand)) (ps:List (Nat×Pred)),dI ms G i fs xs ps->aM (own c V L β) (λw=>qi fs w (xs.map λq=>(q.1,a.eval q.2)) ps) w:=by
   intro xs
   induction xs with
   |nil=>intro ps h; cases ps<;>exactλ_ _=>h
   |cons q xs ih=>
    intro ps h
    obtain⟨j,x⟩:=q
    cases ps with
    |nil=>exact h.elim
    |cons r ps=>
     obtain⟨k,p⟩:=r
     obtain⟨⟨e,h1,h2⟩,h3⟩:=h
     exactλw' he=>⟨⟨e,h1.spec hI hd w' he,h2⟩,ih ps h3 w' he⟩
  have hb:=key _ _ hps
  have wC:∀(n:Nat) (w:World),aI (List.replicate n ⟨agg,sz,p⟩) w ((List.replicate n z).flatten):=by
   intro n
   induction n with
   |zero=>intro w; rfl
   |succ n ih=>
    intro w
    rw[List.replicate_succ,List.replicate_succ,List.flatten_cons]
    refine⟨by simp[xw],?_,?_⟩
    ·rw[List.take_append_of_le_length (by rw[xw]; exact Nat.le_refl _),List.take_of_length_le (by rw[xw]; exact Nat.le_refl _)]; exact hz w
    ·have e:List.drop sz (z++(List.replicate n z).flatten)=(List.replicate n z).flatten:=by rw[<-xw]; simp
     show aI _ w (List.drop sz (z++(List.replicate n z).flatten))
     rw[e]; exact ih w
  have hoff:∀k,k<=n->bg fs k=k*sz:=by
   rw[Hy]
   clear Hy hz hps hg hb key wC Sr AJ hsz hp hq
   induction n with
   |zero=>intro k hk; simp at hk; subst hk; simp[bg]
   |succ n ih=>
    intro k hk
    rw[List.replicate_succ]
    cases k with
    |zero=>simp[bg]
    |succ k=>
     simp only[bg,ih k (by omega)]
     rw[Nat.add_mul,Nat.one_mul,Nat.add_comm]
  have IV:fs.length=n:=by rw[Hy]; simp
  have hall:∀f∈fs,f.agg=agg/\f.n=sz:=by
   intro f hf
   rw[Hy]at hf
   have:=List.eq_of_mem_replicate hf
   rw[this]; exact⟨rfl,rfl⟩
  obtain⟨cs',h1,h2,h3⟩:=Ci (pl:=λi=>some (i*sz,sz)) _ _ fs ((List.replicate n z).flatten) (λk f hk=>by
   have hk':k<n:=by
    rw[<-IV]
    rcases Nat.lt_or_ge k fs.length with h|h
    ·exact h
    ·rw[List.getElem?_eq_none h]at hk; cases hk
   rw[hoff k (by omega),(hall f (List.mem_of_getElem? hk)).2]) (by rw[Hy]; exact wC n w) hb.out
  have Kz:∀f∈gs,f.agg=agg/\f.n=sz:=by
   rw[<-hg]
   clear hg h1 h2 h3 hb key hps hq hoff Hy IV
   induction ps generalizing fs with
   |nil=>exact hall
   |cons r ps ih=>
    obtain⟨k,r⟩:=r
    refine ih λf hf=>?_
    unfold tK at hf
    split at hf
    ·rename_i g Wm
     rcases List.mem_or_eq_of_mem_set hf with h|h
     ·exact hall f h
     ·rw[h]; exact hall g (List.mem_of_getElem? Wm)
    ·exact hall f hf
  have Pe:gs.length=n:=by
   rw[<-hg,<-IV]
   clear hg h1 h2 h3 hb key hps hq hoff Hy IV Kz hall
   induction ps generalizing fs with
   |nil=>rfl
   |cons r ps ih=>
    obtain⟨k,r⟩:=r
    show(mF (tK fs k r) ps).length=fs.length
    rw[ih]
    unfold tK
    split<;>simp
  rw[hg]at h2 h3
  refine⟨.slice (some ⟨w.heap.size,0,none⟩) n n,w.alloc (.cells cs'.toArray E),?_,Below.alloc (Below.refl _ _) (Nat.le_refl _) _,λw' he=>?_⟩
  ·show(do pure (Next.value (<-Instr.buildSlice T n (parts.map λ(i,x)=>(i,a.eval x))))).run P w=_
   have hu:(underlying T).run P w=.ok (.slice E) w:=run_underlying ht.under w
   have e:(parts.map λ(i,x)=>(i,a.eval x)).toList=parts.toList.map λq=>(q.1,a.eval q.2):=by simp
   have RR:(Array.range (n*sz)).map (λk=>z.toArray[k%z.toArray.size]!)=((List.replicate n z).flatten).toArray:=by
    apply Array.ext
    ·simp[xw]
    ·intro k nD hk2
     simp only[Array.getElem_map,Array.getElem_range,List.size_toArray,xw]
     simp only[List.getElem_toArray]
     have hlt:k%sz<z.length:=by rw[xw]; exact Nat.mod_lt _ hs0
     rw[getElem!_pos z.toArray (k%sz) (by simpa using hlt)]
     have S4:∀(n k:Nat) (h:k<((List.replicate n z).flatten).length),((List.replicate n z).flatten)[k]=z[k%sz]'(by rw[xw]; exact Nat.mod_lt _ hs0):=by
      intro n
      induction n with
      |zero=>intro k h; simp at h
      |succ n ih=>
       intro k h
       simp only[List.replicate_succ,List.flatten_cons]
       by_cases hks:k<sz
       ·rw[List.getElem_append_left (by rw[xw]; exact hks)]
        congr 1
        exact(Nat.mod_eq_of_lt hks).symm
       ·rw[List.getElem_append_right (by rw[xw]; omega)]
        have hk3:k-z.length<((List.replicate n z).flatten).length:=by
         simp only[List.replicate_succ,List.flatten_cons,List.length_append]at h
         omega
        rw[ih (k-z.length) hk3]
        congr 1
        rw[xw]
        exact(Nat.mod_eq_sub_mod (by omega)).symm
     rw[S4 n k (by simpa using hk2)]
     simp
   rw[Sem.run_bind]
   have hrun:(Instr.buildSlice T n (parts.map λ(i,x)=>(i,a.eval x))).run P w=.ok (.slice (some ⟨w.heap.size,0,none⟩) n n) (w.alloc (.cells cs'.toArray E)):=by
    simp only[Instr.buildSlice,Sem.run_bind,hu,Result.andThen_ok,ht.size]
    rw[if_neg (by omega),if_neg (by have:=Nat.mul_pos AJ hs0; omega)]
    simp only[Sem.run_bind,DC,Result.andThen_ok,Sem.run_pure,AR]
    rw[RR,e,h1]
    simp only[Sem.run_bind,newRow,Sem.run_pure]
    rfl
   rw[hrun]
   rfl
  ·have hgt:w'.heap[w.heap.size]?=some (.cells cs'.toArray E (0,0)):=by
    rw[he.block w.heap.size (by simp) (λo h=>by have:=wO hI h; omega)]
    exact heap_alloc_new _ _
   have he':Ext (own c V L β) w w':=(Ext.bI (Below.alloc (Below.refl _ _) (Nat.le_refl _) _)).trans he
   have hc':=h3 w' (by rw[Hy]; exact wC n w') (hb w' he')
   have:=Ee hgt hc' Kz (by rw[Pe]; unfold maxLen; have:n<=n*sz:=Nat.le_mul_of_pos_right n hs0; omega) q hq
   rw[Pe]at this
   exact⟨⟨_,rfl⟩,this⟩
theorem jg {z:List Value} (ht:pD P T E sz) (DC:∀w,(zeroValue E).run P w=.ok zv w) (AR:zv.cells=z.toArray)
  (Hy:fs=List.replicate n ⟨agg,sz,p⟩) (hsz:decide (0<sz/\0<n/\n*sz<=16777216)=true) (hz:∀w,p w (au agg z)) (xw:z.length=sz) (hps:dI ms G i fs parts.toList ps) (hg:mF fs ps=gs) (q:Nat->Pred) (hq:∀(k:Nat) (f:Fd),gs[k]?=some f->f.p=q k) (hp:Post G i (bK sz agg n q)):
  OpOk P ops ms c V A G i ⟨some d,.buildSlice T n parts,ty,pos,aL,none⟩:=tf ht DC AR Hy hsz hz xw hps hg q hq (by
 cases hp with
 |at_ k s r h hr=>exact .at_ k s r h λw v hp=>hr w v hp.2
 |none h=>exact .none h)
theorem ze {f:FuncId} {fx:Operand} {args:Array Operand} {ts:Array TypeId} (hf:aN P f) (hx:Has ms G i fx (bp (.func (.func f) #[] #[]))) (hp:Post G i p)
  (hc:∀L β a w,aT c V A G L β a w->mB ms i L->Calls P f (args.map a.eval) w (bD (own c V L β) p w)):
  OpOk P ops ms c V A G i ⟨some d,.call ⟨.value fx,args,ts⟩,ty,pos,aL,none⟩:=by
 refine iR (λL β a w hI hd hwf=>?_) rfl
 have Ky:a.eval fx=.func (.func f) #[] #[]:=(hx.spec hI hd).out
 have hr:(execOp a.eval ⟨some d,.call ⟨.value fx,args,ts⟩,ty,pos,aL,none⟩).run P w=.ok (.enter f (args.map a.eval)) w:=by
  have:=hf (args.map a.eval++#[]) w
  simp only[execOp,resolve,Ky,Deferred.ofValue,pure_bind,invoke]
  rw[Array.append_empty]at this
  first|exact this|simpa using this
 unfold Does
 rw[hr]
 refine(hc L β a w hI hd).mono ?_
 rintro e w' ⟨v,rfl,hv,hb⟩
 exact⟨v,rfl,β,hI.value hwf (qA hwf rfl) rfl hb (λd q _ hq Ez _=>by have:=hwf.aa q hq Ez; cases this) λe he ht=>hv.imp λw=>hp.spec hwf he ht w v⟩
theorem JD {n:Int} (h:-9223372036854775808<=n/\n<=9223372036854775807):∀w v,bp (.int .i64 (IntKind.i64.wrap n)) w v->pI n w v:=λ_ _ e=>by rw[IntWalk.i64_in n h]at e; exact e
end
def xy (G:List aV):List aV->Prop
 |[]=>True
 |e::es=>(e.tag=none/\e.till=none/\∃(k:Nat) (p:Pred),G[k]?=some ⟨none,none,e.slot,p⟩/\∀w v,p w v->e.p w v)/\xy G es
def xC (V:List Vr):List Vr->Prop
 |[]=>True
 |x::xs=>(∃(k:Nat) (kd:Kd) (p:Rel),V[k]?=some ⟨x.id,x.slot,none,none,kd,x.T,x.n,x.agg,p,[]⟩/\(x.born=none/\x.dead=none/\x.st=[])/\kd=x.kd/\∀F w v,p F w v->x.c0 F w v)/\xC V xs
variable {G:List aV}
theorem xy.get:∀{G':List aV},xy G G'->∀e,e∈G'->e.tag=none/\e.till=none/\∃(k:Nat) (p:Pred),G[k]?=some ⟨none,none,e.slot,p⟩/\∀w v,p w v->e.p w v:=by
 intro G'
 induction G' with
 |nil=>intro _ e he; cases he
 |cons f G' ih=>
  intro h e he
  rcases List.mem_cons.1 he with rfl|he
  ·exact h.1
  ·exact ih h.2 e he
variable {V:List Vr}
theorem xC.get:∀{V':List Vr},xC V V'->∀x,x∈V'->∃(k:Nat) (kd:Kd) (p:Rel),V[k]?=some ⟨x.id,x.slot,none,none,kd,x.T,x.n,x.agg,p,[]⟩/\(x.born=none/\x.dead=none/\x.st=[])/\kd=x.kd/\∀F w v,p F w v->x.c0 F w v:=by
 intro V'
 induction V' with
 |nil=>intro _ x hx; cases hx
 |cons f V' ih=>
  intro h x hx
  rcases List.mem_cons.1 hx with rfl|hx
  ·exact h.1
  ·exact ih h.2 x hx
theorem Inv.conv {c:cM} {V':List Vr} {A:List Al} {G':List aV} {a:Act} {w:World} (h:Inv c V A G none_ a w) (hV:xC V V') (hG:xy G G'):Inv c V' [] G' none_ a w:=by
 obtain⟨β,h⟩:=h
 have eo:∀k o,own c V' none_ β k o->own c V none_ β k o:=by
  rintro k o (h1|⟨x,hx,_,h2,h3⟩)
  ·exact .inl h1
  ·obtain⟨j,kd,p,hj,_,hk,_⟩:=hV.get x hx
   subst hk
   exact .inr ⟨_,List.mem_of_getElem? hj,rfl,h2,h3⟩
 refine⟨β,h.size,h.defers,h.below,h.old,?_,?_,(λp hp=>by cases hp),?_⟩
 ·intro x hx _
  obtain⟨j,kd,p,hj,⟨hb,hdd,hs⟩,bS,hp⟩:=hV.get x hx
  subst bS
  have hv:=h.var _ (List.mem_of_getElem? hj) rfl
  rcases iz x.kd with hk|⟨m,sz,hk⟩|hk
  ·obtain⟨g,h1,h2,h3⟩:=(bB (x:=⟨x.id,x.slot,none,none,x.kd,x.T,x.n,x.agg,p,[]⟩) hk).1 hv
   obtain⟨cs,h4,h5,h6,h7⟩:=h3.held
   refine(bB hk).2 ⟨g,h1,h2,h3.new,cs,h4,h5,h6,?_⟩
   rw[hs]
   exact(h7.sub λk o _ hk=>eo k o hk).imp λw=>hp _ w _
  ·exact(bt hk).2 ((bt (x:=⟨x.id,x.slot,none,none,x.kd,x.T,x.n,x.agg,p,[]⟩) hk).1 hv)
  ·obtain⟨h1,h2⟩:=(aK (x:=⟨x.id,x.slot,none,none,x.kd,x.T,x.n,x.agg,p,[]⟩) hk).1 hv
   refine(aK hk).2 ⟨h1,?_⟩
   rw[hs]
   exact(h2.sub λk o _ h=>⟨eo k o h.1,h.2⟩).imp λw=>hp _ w _
 ·intro x y g hx hy _ _ hne
  obtain⟨j,kd,p,hj,_⟩:=hV.get x hx
  obtain⟨j',kd',p',hj',_⟩:=hV.get y hy
  have:=h.apart _ _ g (List.mem_of_getElem? hj) (List.mem_of_getElem? hj') rfl rfl hne
  exact this
 ·intro e he _ _
  obtain⟨_,_,k,p,hk,hp⟩:=hG.get e he
  exact((h.gY _ (List.mem_of_getElem? hk) rfl rfl).sub λk o _ hk=>eo k o hk).imp λw=>hp w _
end Wx
