import Derived.IntWalk
import Derived.Test.YtpiniclogfefjaaGreatJSolves10
namespace Wx
open Go Go.RowKit

def Wr (sz:Nat) (agg:Bool) (p:Qg):Qg:=fun w v=>∃(b o:Nat) (cs:List Value),v=.pointer (some ⟨b,o,none⟩)∧cs.length=sz∧(∀j u,cs[j]?=some u→w.cell? ⟨b,o+j,none⟩=some u)∧p w (Xd agg cs)
def Qc (sz:Nat) (agg:Bool) (n:Nat) (f:Nat→Qg):Qg:=fun w v=>∃(A:Option Addr) (cap:Nat),v=.slice A n cap∧n≤cap∧cap≤maxLen ∧
 (0<n→∃b o:Nat,A=some ⟨b,o,none⟩∧∀i,i<n→∃cs:List Value,cs.length=sz∧(∀j u,cs[j]?=some u→w.cell? ⟨b,o+i*sz+j,none⟩=some u)∧f i w (Xd agg cs))
def Qe (l:List Rat):Qg:=Qc 3 true l.length fun i=>Qv (l.getD i 0)

theorem box_cell {M:Nat→Nat→Prop} {w:World} {F:World→Prop} {b o:Nat} {u:Value} (h:Box M F w) (hc:w.cell? ⟨b,o,none⟩=some u) (hno:∀w':World,w'.cell? ⟨b,o,none⟩=some (.int .u64 0)→¬F w'):¬M b o:=by
 intro hm
 have hb:=World.block_lt_of_cell? w _ hc
 simp only[World.cell?]at hc
 cases hbl:w.heap[b]? with
 |none=>rw[hbl]at hc; simp at hc
 |some bl=>
  rw[hbl]at hc
  cases bl with
  |cells cs t fz=>
   simp only at hc
   have ho:o<cs.size:=by
    rcases Nat.lt_or_ge o cs.size with h'|h'
    ·exact h'
    ·rw[Array.getElem?_eq_none h']at hc; simp at hc
   have e:w.heap.setIfInBounds b (.cells (cs.setIfInBounds o (.int .u64 0)) t fz)=w.heap.setIfInBounds b (.cells (cs.setIfInBounds o (.int .u64 0)) t fz):=rfl
   refine hno { w with heap:=w.heap.setIfInBounds b (.cells (cs.setIfInBounds o (.int .u64 0)) t fz) } ?_ (h _ ⟨?_,?_,?_⟩)
   ·simp[World.cell?,hb,ho]
   ·simp
   ·intro k hk hnm
    have hne:b≠k:=fun e=>hnm o (e▸hm)
    simp[Array.getElem?_setIfInBounds_ne hne]
   ·intro k j v hnm hv
    by_cases hk:k=b
    ·subst hk
     have hne:o≠j:=fun e=>hnm (e▸hm)
     simp only[World.cell?,hbl]at hv
     simp only[World.cell?,Array.getElem?_setIfInBounds_self_of_lt hb]
     simpa [Array.getElem?_setIfInBounds_ne hne] using hv
    ·rw[World.cell?_of_block (w:=w) (by simp[Array.getElem?_setIfInBounds_ne (fun e=>hk e.symm)])]
     exact hv
  |_=>simp at hc
theorem cell_ext {M:Nat→Nat→Prop} {w w':World} (he:Ext M w w') {b o:Nat} {u:Value} (h:w.cell? ⟨b,o,none⟩=some u) (hm:¬M b o):w'.cell? ⟨b,o,none⟩=some u:=he.cell b o u hm h
theorem Qcd {w:World} {b o:Nat} {cs ds:List Value} (hl:cs.length=ds.length) (h1:∀j u,cs[j]?=some u→w.cell? ⟨b,o+j,none⟩=some u) (h2:∀j u,ds[j]?=some u→w.cell? ⟨b,o+j,none⟩=some u):cs=ds:=by
 apply List.ext_getElem hl
 intro i hi hi'
 have e1:=h1 i _ (List.getElem?_eq_getElem hi)
 have e2:=h2 i _ (List.getElem?_eq_getElem hi')
 rw[e1]at e2
 injection e2
theorem ptr_open {M:Nat→Nat→Prop} {w:World} {sz:Nat} {agg:Bool} {p:Qg} {v:Value} (h1:agg=false→sz=1) (hf:J4 sz agg p) (h:Box M (fun w=>Wr sz agg p w v) w):
  ∃(b o:Nat) (cs:List Value),v=.pointer (some ⟨b,o,none⟩)∧cs.length=sz∧(∀j u,cs[j]?=some u→w.cell? ⟨b,o+j,none⟩=some u)∧Box M (fun w=>p w (Xd agg cs)) w:=by
 obtain⟨b,o,cs,rfl,hl,hc,hp⟩:=h.out
 have wrap1:∀{cs ds:List Value},cs.length=sz→ds.length=sz→Xd agg cs=Xd agg ds→cs=ds:=by
  intro cs ds e1 e2 e
  cases agg with
  |true=>exact Qdo e
  |false=>
   have:=h1 rfl
   match cs,ds,e1,e2 with
   |[x],[y],_,_=>simp only[Xd,Bool.false_eq_true,if_false,List.headD_cons]at e; rw[e]
   |[],_,e1,_=>simp at e1; omega
   |_::_::_,_,e1,_=>simp at e1; omega
   |[_],[],_,e2=>simp at e2; omega
   |[_],_::_::_,_,e2=>simp at e2; omega
 have hm:∀j u,cs[j]?=some u→¬M b (o+j):=fun j u hj=>box_cell h (hc j u hj) (by
  rintro w' hw' ⟨b',o',cs',e,hl',hc',hp'⟩
  injection e with e
  injection e with e
  injection e with e2 e3
  subst e2 e3
  obtain⟨ds,e4,hl4,_,h4⟩:=hf w' _ hp'
  have e5:=wrap1 hl' hl4 e4
  subst e5
  have hj':j<cs'.length:=by
   rcases Nat.lt_or_ge j cs.length with h'|h'
   ·omega
   ·rw[List.getElem?_eq_none h']at hj; cases hj
  have h6:=hc' j _ (List.getElem?_eq_getElem hj')
  rw[hw']at h6
  injection h6 with h6
  exact((h4 _ (List.getElem_mem hj')).1 0).1 h6.symm)
 refine⟨b,o,cs,rfl,hl,hc,fun w' he=>?_⟩
 obtain⟨b',o',cs',e,hl',hc',hp'⟩:=h w' he
 injection e with e
 injection e with e
 injection e with e1 e2
 subst e1 e2
 have:cs=cs':=Qcd (by omega) (fun j u hj=>cell_ext he (hc j u hj) (hm j u hj)) hc'
 rw[this]; exact hp'
structure SlTy (P:Program) (T:TypeId) (E:TypeId) (sz:Nat):Prop where
 under:P.underlying T=some (.slice E)
 size:∀w,(Go.sizeOf E).run P w=.ok sz w
section
variable {P:Program} {ops:Array Oper} {ms:List Nat} {c:Cfg} {V:List Vr} {A:List Al} {G:List Ent} {i:Nat} {L:Nat→Bool} {β:Nat→Nat→Prop} {a:Act} {w:World} {o:Oper}
variable {d:Nat} {x y z:Operand} {ty:TypeId} {pos:String} {aft:Array Edge}
theorem Q5 {T:TypeId} {sz:Nat} {agg:Bool} {p:Qg} (h:Has ms G i x (Wr sz agg p)) (ht:Ty P T agg sz) (hfit:J4 sz agg p) (hp:Post G i p):Q0 P ops ms c V A G i ⟨some d,.load T x,ty,pos,aft,none⟩:=
 Vu rfl rfl rfl (.inl rfl) hp fun L β a w hI hd=>by
  obtain⟨b,o,cs,e,hl,hc,hb⟩:=ptr_open ht.one hfit (h.spec hI hd)
  refine⟨_,w,?_,Below.refl _ _,hb⟩
  show(do pure (Next.value (← Instr.loadAt T (a.eval x)))).run P w=_
  rw[e,Sem.run_bind,V9 ht hc hl]
  rfl
theorem Qim {T E:TypeId} {sz b off n cap:Nat} {m:Int} (ht:SlTy P T E sz) (h0:0≤m) (h1:m<n):(Instr.indexAt T (.slice (some ⟨b,off,none⟩) n cap) (.int .i64 m)).run P w=.ok (.pointer (some ⟨b,off+m.toNat*sz,none⟩)) w:=by
 have hu:(underlying T).run P w=.ok (.slice E) w:=run_underlying ht.under w
 simp only[Instr.indexAt,asIntOf,pure_bind,Sem.run_bind,hu,Result.andThen_ok]
 rw[if_pos ⟨h0,h1⟩]
 simp only[Sem.run_bind,ht.size,Result.andThen_ok,Sem.run_pure,Addr.add_mid]
theorem Jo {T E:TypeId} {sz n:Nat} {agg:Bool} {f:Nat→Qg} {m:Int} (h:Has ms G i x (Qc sz agg n f)) (hy:Has ms G i y (pI m)) (ht:SlTy P T E sz) (h0:0≤m) (h1:m<n) (hA:(A.all fun q=>q.tag != some i)=true) (hp:Post G i (Wr sz agg (f m.toNat))):
  Q0 P ops ms c V A G i ⟨some d,.indexAddr T x y,ty,pos,aft,none⟩:=
 Vu rfl rfl rfl (.inr hA) hp fun L β a w hI hd=>by
  have hr:=h.spec hI hd
  have hi:a.eval y=.int .i64 m:=(hy.spec hI hd).out
  obtain⟨A',cap,e,hn,hcap,hel⟩:=hr.out
  obtain⟨b,off,rfl,_⟩:=hel (by omega)
  refine⟨.pointer (some ⟨b,off+m.toNat*sz,none⟩),w,?_,Below.refl _ _,fun w' he=>?_⟩
  ·show(do pure (Next.value (← Instr.indexAt T (a.eval x) (a.eval y)))).run P w=_
   rw[e,hi,Sem.run_bind,Qim ht h0 h1]
   rfl
  ·obtain⟨A2,cap2,e2,_,_,hel2⟩:=hr w' he
   rw[e]at e2
   injection e2 with e2
   obtain⟨b2,off2,e3,hel3⟩:=hel2 (by omega)
   rw[← e2]at e3
   injection e3 with e3
   injection e3 with e4 e5
   subst e4 e5
   obtain⟨cs,h2,h3,h4⟩:=hel3 m.toNat (by omega)
   exact⟨_,_,cs,rfl,h2,h3,h4⟩
theorem Qm {T E:TypeId} {sz n:Nat} {agg:Bool} {f:Nat→Qg} (h:Has ms G i x (Qc sz agg n f)) (ht:P.underlying T=some (.slice E)) (hp:Post G i (pI (n:Int))):
  Q0 P ops ms c V A G i ⟨some d,.call ⟨.builtin .len,#[x],#[T]⟩,ty,pos,aft,none⟩:=
 Qc2 rfl rfl rfl rfl h hp fun ρ w h=>⟨.int .i64 n,by
  obtain⟨A',cap,e,_⟩:=h
  have hr:(Builtin.len_ #[T] ty #[ρ x]).run P w=.ok (.int .i64 n) w:=by
   rw[e]
   unfold Builtin.len_
   simp[run_underlying ht,goInt]
  show(do let d ← resolve ρ ⟨.builtin .len,#[x],#[T]⟩ ty; invoke d.target d.args).run P w=_
  simp only[resolve,invoke,pure_bind,builtin]
  rw[show(#[x]:Array Operand).map ρ=#[ρ x] by simp,Sem.run_bind,hr]
  rfl,fun _ _=>rfl⟩
theorem row_cells {w:World} {g:Nat} {T:TypeId} {fz:Nat×Nat} {cs:List Value} {fs:List Fd} {sz:Nat} {agg:Bool} (hg:w.heap[g]?=some (.cells cs.toArray T fz)) (hc:Zc fs w cs) (hf:∀f∈fs,f.agg=agg∧f.n=sz) (hlen:fs.length≤maxLen) (p:Nat→Qg) (hp:∀(k:Nat) (f:Fd),fs[k]?=some f→f.p=p k):
  Qc sz agg fs.length p w (.slice (some ⟨g,0,none⟩) fs.length fs.length):=by
 have hoff:∀(fs:List Fd),(∀f∈fs,f.agg=agg∧f.n=sz)→∀k,k≤fs.length→Yn fs k=k*sz:=by
  intro fs
  induction fs with
  |nil=>intro _ k hk; simp at hk; subst hk; simp[Yn]
  |cons f fs ih=>
   intro h k hk
   cases k with
   |zero=>simp[Yn]
   |succ k=>
    have h1:=(h f (by simp)).2
    have h2:=ih (fun g hg=>h g (List.mem_cons_of_mem _ hg)) k (by simp at hk; omega)
    simp only[Yn,h1,h2]
    rw[Nat.add_mul,Nat.one_mul,Nat.add_comm]
 refine⟨_,_,rfl,Nat.le_refl _,hlen,fun _=>⟨g,0,rfl,fun i hi=>?_⟩⟩
 have hk:=List.getElem?_eq_getElem hi
 obtain⟨e1,e2⟩:=hf _ (List.getElem_mem hi)
 have hget:=pCells_get hc hk
 have htot:=Qa0 hc
 have hsz:∀(fs:List Fd),(∀f∈fs,f.agg=agg∧f.n=sz)→sizeS fs=fs.length*sz:=by
  intro fs
  induction fs with
  |nil=>intro _; simp[sizeS]
  |cons f fs ih=>intro h; simp only[sizeS,(h f (by simp)).2,ih (fun g hg=>h g (List.mem_cons_of_mem _ hg)),List.length_cons,Nat.add_mul,Nat.one_mul]; omega
 have hs:=hsz fs hf
 have hio:=hoff fs hf i (by omega)
 have hle:i*sz+sz≤fs.length*sz:=by
  have:(i+1)*sz≤fs.length*sz:=Nat.mul_le_mul_right _ hi
  rw[Nat.add_mul,Nat.one_mul]at this; exact this
 refine⟨(cs.drop (i*sz)).take sz,by simp; omega,fun j u hj=>?_,?_⟩
 ·have:=W4 hg (i*sz) sz j u hj
  rwa [Nat.zero_add]
 ·rw[hio,e1,e2]at hget
  rw[← hp i _ hk]
  exact hget
theorem Qbf {T E:TypeId} {parts:Array (Nat×Operand)} {z:List Value} {zv:Value} {fs gs:List Fd} {ps:List (Nat×Qg)} {sz n:Nat} {agg:Bool} {p:Qg} (ht:SlTy P T E sz) (hzv:∀w,(zeroValue E).run P w=.ok zv w) (hzc:zv.cells=z.toArray)
  (hfs:fs=List.replicate n ⟨agg,sz,p⟩) (hsz:decide (0<sz∧0<n∧n*sz≤16777216)=true) (hz:∀w,p w (Xd agg z)) (hzl:z.length=sz) (hps:Qbi ms G i fs parts.toList ps) (hg:setsF fs ps=gs) (q:Nat→Qg) (hq:∀(k:Nat) (f:Fd),gs[k]?=some f→f.p=q k) (hp:Post G i (Qc sz agg n q)):
  Q0 P ops ms c V A G i ⟨some d,.buildSlice T n parts,ty,pos,aft,none⟩:=
 Vu rfl rfl rfl (.inl rfl) hp fun L β a w hI hd=>by
  obtain⟨hs0,hn0,hlim⟩:=of_decide_eq_true hsz
  have key:∀(xs:List (Nat×Operand)) (ps:List (Nat×Qg)),Qbi ms G i fs xs ps→Box (own c V L β) (fun w=>Parts fs w (xs.map fun q=>(q.1,a.eval q.2)) ps) w:=by
   intro xs
   induction xs with
   |nil=>intro ps h; cases ps<;>exact fun _ _=>h
   |cons q xs ih=>
    intro ps h
    obtain⟨j,x⟩:=q
    cases ps with
    |nil=>exact h.elim
    |cons r ps=>
     obtain⟨k,p⟩:=r
     obtain⟨⟨e,h1,h2⟩,h3⟩:=h
     exact fun w' he=>⟨⟨e,h1.spec hI hd w' he,h2⟩,ih ps h3 w' he⟩
  have hb:=key _ _ hps
  have hcells0:∀(n:Nat) (w:World),Zc (List.replicate n ⟨agg,sz,p⟩) w ((List.replicate n z).flatten):=by
   intro n
   induction n with
   |zero=>intro w; rfl
   |succ n ih=>
    intro w
    rw[List.replicate_succ,List.replicate_succ,List.flatten_cons]
    refine⟨by simp[hzl],?_,?_⟩
    ·rw[List.take_append_of_le_length (by rw[hzl]; exact Nat.le_refl _),List.take_of_length_le (by rw[hzl]; exact Nat.le_refl _)]; exact hz w
    ·have e:List.drop sz (z++(List.replicate n z).flatten)=(List.replicate n z).flatten:=by rw[← hzl]; simp
     show Zc _ w (List.drop sz (z++(List.replicate n z).flatten))
     rw[e]; exact ih w
  have hoff:∀k,k≤n→Yn fs k=k*sz:=by
   rw[hfs]
   clear hfs hz hps hg hb key hcells0 hlim hn0 hsz hp hq
   induction n with
   |zero=>intro k hk; simp at hk; subst hk; simp[Yn]
   |succ n ih=>
    intro k hk
    rw[List.replicate_succ]
    cases k with
    |zero=>simp[Yn]
    |succ k=>
     simp only[Yn,ih k (by omega)]
     rw[Nat.add_mul,Nat.one_mul,Nat.add_comm]
  have hfsl:fs.length=n:=by rw[hfs]; simp
  have hall:∀f∈fs,f.agg=agg∧f.n=sz:=by
   intro f hf
   rw[hfs]at hf
   have:=List.eq_of_mem_replicate hf
   rw[this]; exact⟨rfl,rfl⟩
  obtain⟨cs',h1,h2,h3⟩:=fill_ok (pl:=fun i=>some (i*sz,sz)) _ _ fs ((List.replicate n z).flatten) (fun k f hk=>by
   have hk':k<n:=by
    rw[← hfsl]
    rcases Nat.lt_or_ge k fs.length with h|h
    ·exact h
    ·rw[List.getElem?_eq_none h]at hk; cases hk
   rw[hoff k (by omega),(hall f (List.mem_of_getElem? hk)).2]) (by rw[hfs]; exact hcells0 n w) hb.out
  have hgall:∀f∈gs,f.agg=agg∧f.n=sz:=by
   rw[← hg]
   clear hg h1 h2 h3 hb key hps hq hoff hfs hfsl
   induction ps generalizing fs with
   |nil=>exact hall
   |cons r ps ih=>
    obtain⟨k,r⟩:=r
    refine ih fun f hf=>?_
    unfold setF at hf
    split at hf
    ·rename_i g hgk
     rcases List.mem_or_eq_of_mem_set hf with h|h
     ·exact hall f h
     ·rw[h]; exact hall g (List.mem_of_getElem? hgk)
    ·exact hall f hf
  have hgl:gs.length=n:=by
   rw[← hg,← hfsl]
   clear hg h1 h2 h3 hb key hps hq hoff hfs hfsl hgall hall
   induction ps generalizing fs with
   |nil=>rfl
   |cons r ps ih=>
    obtain⟨k,r⟩:=r
    show(setsF (setF fs k r) ps).length=fs.length
    rw[ih]
    unfold setF
    split<;>simp
  rw[hg]at h2 h3
  refine⟨.slice (some ⟨w.heap.size,0,none⟩) n n,w.alloc (.cells cs'.toArray E),?_,Below.alloc (Below.refl _ _) (Nat.le_refl _) _,fun w' he=>?_⟩
  ·show(do pure (Next.value (← Instr.buildSlice T n (parts.map fun(i,x)=>(i,a.eval x))))).run P w=_
   have hu:(underlying T).run P w=.ok (.slice E) w:=run_underlying ht.under w
   have e:(parts.map fun(i,x)=>(i,a.eval x)).toList=parts.toList.map fun q=>(q.1,a.eval q.2):=by simp
   have harr:(Array.range (n*sz)).map (fun k=>z.toArray[k%z.toArray.size]!)=((List.replicate n z).flatten).toArray:=by
    apply Array.ext
    ·simp[hzl]
    ·intro k hk1 hk2
     simp only[Array.getElem_map,Array.getElem_range,List.size_toArray,hzl]
     simp only[List.getElem_toArray]
     have hlt:k%sz<z.length:=by rw[hzl]; exact Nat.mod_lt _ hs0
     rw[getElem!_pos z.toArray (k%sz) (by simpa using hlt)]
     have key2:∀(n k:Nat) (h:k<((List.replicate n z).flatten).length),((List.replicate n z).flatten)[k]=z[k%sz]'(by rw[hzl]; exact Nat.mod_lt _ hs0):=by
      intro n
      induction n with
      |zero=>intro k h; simp at h
      |succ n ih=>
       intro k h
       simp only[List.replicate_succ,List.flatten_cons]
       by_cases hks:k<sz
       ·rw[List.getElem_append_left (by rw[hzl]; exact hks)]
        congr 1
        exact(Nat.mod_eq_of_lt hks).symm
       ·rw[List.getElem_append_right (by rw[hzl]; omega)]
        have hk3:k-z.length<((List.replicate n z).flatten).length:=by
         simp only[List.replicate_succ,List.flatten_cons,List.length_append]at h
         omega
        rw[ih (k-z.length) hk3]
        congr 1
        rw[hzl]
        exact(Nat.mod_eq_sub_mod (by omega)).symm
     rw[key2 n k (by simpa using hk2)]
     simp
   rw[Sem.run_bind]
   have hrun:(Instr.buildSlice T n (parts.map fun(i,x)=>(i,a.eval x))).run P w=.ok (.slice (some ⟨w.heap.size,0,none⟩) n n) (w.alloc (.cells cs'.toArray E)):=by
    simp only[Instr.buildSlice,Sem.run_bind,hu,Result.andThen_ok,ht.size]
    rw[if_neg (by omega),if_neg (by have:=Nat.mul_pos hn0 hs0; omega)]
    simp only[Sem.run_bind,hzv,Result.andThen_ok,Sem.run_pure,hzc]
    rw[harr,e,h1]
    simp only[Sem.run_bind,newRow,Sem.run_pure]
    rfl
   rw[hrun]
   rfl
  ·have hgt:w'.heap[w.heap.size]?=some (.cells cs'.toArray E (0,0)):=by
    rw[he.block w.heap.size (by simp) (fun o h=>by have:=own_lt hI h; omega)]
    exact heap_alloc_new _ _
   have he':Ext (own c V L β) w w':=(Ext.of_below (Below.alloc (Below.refl _ _) (Nat.le_refl _) _)).trans he
   have hc':=h3 w' (by rw[hfs]; exact hcells0 n w') (hb w' he')
   have:=row_cells hgt hc' hgall (by rw[hgl]; unfold maxLen; have:n≤n*sz:=Nat.le_mul_of_pos_right n hs0; omega) q hq
   rw[hgl]at this
   exact this

theorem pI_wrap {n:Int} (h:-9223372036854775808≤n∧n≤9223372036854775807):∀w v,Qi (.int .i64 (IntKind.i64.wrap n)) w v→pI n w v:=fun _ _ e=>by rw[IntWalk.i64_in n h]at e; exact e
end
theorem rats_fd (l:List Rat):∀(k:Nat) (f:Fd),(l.map fun q=>(⟨true,3,Qv q⟩:Fd))[k]?=some f→f.p=Qv (l.getD k 0):=by
 intro k f hk
 rw[List.getElem?_map]at hk
 cases h:l[k]? with
 |none=>rw[h]at hk; cases hk
 |some q=>
  rw[h]at hk
  simp only[Option.map_some,Option.some.injEq]at hk
  rw[← hk,List.getD_eq_getElem?_getD,h]
  rfl
def GConv (G:List Ent):List Ent→Prop
 |[]=>True
 |e::es=>(e.tag=none∧e.till=none∧∃(k:Nat) (p:Qg),G[k]?=some ⟨none,none,e.slot,p⟩∧∀w v,p w v→e.p w v)∧GConv G es
def VConv (V:List Vr):List Vr→Prop
 |[]=>True
 |x::xs=>(∃(k:Nat) (kd:Kd) (p:Zz),V[k]?=some ⟨x.id,x.slot,none,none,kd,x.T,x.n,x.agg,p,[]⟩∧(x.born=none∧x.dead=none∧x.st=[])∧kd=x.kd∧∀F w v,p F w v→x.c0 F w v)∧VConv V xs
theorem GConv.get {G:List Ent}:∀{G':List Ent},GConv G G'→∀e,e∈G'→e.tag=none∧e.till=none∧∃(k:Nat) (p:Qg),G[k]?=some ⟨none,none,e.slot,p⟩∧∀w v,p w v→e.p w v:=by
 intro G'
 induction G' with
 |nil=>intro _ e he; cases he
 |cons f G' ih=>
  intro h e he
  rcases List.mem_cons.1 he with rfl|he
  ·exact h.1
  ·exact ih h.2 e he
theorem VConv.get {V:List Vr}:∀{V':List Vr},VConv V V'→∀x,x∈V'→∃(k:Nat) (kd:Kd) (p:Zz),V[k]?=some ⟨x.id,x.slot,none,none,kd,x.T,x.n,x.agg,p,[]⟩∧(x.born=none∧x.dead=none∧x.st=[])∧kd=x.kd∧∀F w v,p F w v→x.c0 F w v:=by
 intro V'
 induction V' with
 |nil=>intro _ x hx; cases hx
 |cons f V' ih=>
  intro h x hx
  rcases List.mem_cons.1 hx with rfl|hx
  ·exact h.1
  ·exact ih h.2 x hx
theorem Inv.conv {c:Cfg} {V V':List Vr} {A:List Al} {G G':List Ent} {a:Act} {w:World} (h:Inv c V A G Qf a w) (hV:VConv V V') (hG:GConv G G'):Inv c V' [] G' Qf a w:=by
 obtain⟨β,h⟩:=h
 have eo:∀k o,own c V' Qf β k o→own c V Qf β k o:=by
  rintro k o (h1|⟨x,hx,_,h2,h3⟩)
  ·exact .inl h1
  ·obtain⟨j,kd,p,hj,_,hk,_⟩:=hV.get x hx
   subst hk
   exact .inr ⟨_,List.mem_of_getElem? hj,rfl,h2,h3⟩
 refine⟨β,h.size,h.defers,h.below,h.old,?_,?_,(fun p hp=>by cases hp),?_⟩
 ·intro x hx _
  obtain⟨j,kd,p,hj,⟨hb,hdd,hs⟩,hkd,hp⟩:=hV.get x hx
  subst hkd
  have hv:=h.var _ (List.mem_of_getElem? hj) rfl
  rcases Qes x.kd with hk|⟨m,sz,hk⟩|hk
  ·obtain⟨g,h1,h2,h3⟩:=(Zy (x:=⟨x.id,x.slot,none,none,x.kd,x.T,x.n,x.agg,p,[]⟩) hk).1 hv
   obtain⟨cs,h4,h5,h6,h7⟩:=h3.held
   refine(Zy hk).2 ⟨g,h1,h2,h3.new,cs,h4,h5,h6,?_⟩
   rw[hs]
   exact(h7.sub fun k o _ hk=>eo k o hk).imp fun w=>hp _ w _
  ·exact(Zp hk).2 ((Zp (x:=⟨x.id,x.slot,none,none,x.kd,x.T,x.n,x.agg,p,[]⟩) hk).1 hv)
  ·obtain⟨h1,h2⟩:=(Y5 (x:=⟨x.id,x.slot,none,none,x.kd,x.T,x.n,x.agg,p,[]⟩) hk).1 hv
   refine(Y5 hk).2 ⟨h1,?_⟩
   rw[hs]
   exact(h2.sub fun k o _ h=>⟨eo k o h.1,h.2⟩).imp fun w=>hp _ w _
 ·intro x y g hx hy _ _ hne
  obtain⟨j,kd,p,hj,_⟩:=hV.get x hx
  obtain⟨j',kd',p',hj',_⟩:=hV.get y hy
  have:=h.apart _ _ g (List.mem_of_getElem? hj) (List.mem_of_getElem? hj') rfl rfl hne
  exact this
 ·intro e he _ _
  obtain⟨_,_,k,p,hk,hp⟩:=hG.get e he
  exact((h.ent _ (List.mem_of_getElem? hk) rfl rfl).sub fun k o _ hk=>eo k o hk).imp fun w=>hp w _
end Wx

namespace Wx
open Go Go.RowKit Go.Proofs Go.ChangeShapes Go.WideShapes Go.ChangeAt Go.Deep

def Stands (w w':World):Prop:=∀a v,w.cell? a=some v→w'.cell? a=some v
theorem stands_of {M:Nat→Nat→Prop} {w w':World} (hM:∀k o,¬M k o) (h:Ext M w w'):Stands w w':=fun a v hv=>by
 obtain⟨b,o,s⟩:=a
 cases s with
 |none=>exact h.cell b o v (hM b o) hv
 |some s=>
  exfalso
  unfold World.cell? at hv
  split at hv
  ·simp at hv
  ·cases hv
def Opn {H:Type} (enc:TypeId×Value→H) (P:Program) (w:World) (e:TypeId) (agg:Bool) {α:Type} (C:α→Prop) (f:α→Qg):Prop:=
 ∀fuel cs (x:DataW H×List MemPlace),DataW.trod enc P w 0 (fun _=>true) true fuel e cs=some x→∃a:α,C a∧∀w',Stands w w'→f a w' (Xd agg cs)
section
variable {H:Type} {enc:TypeId×Value→H} {P:Program} {w:World}
theorem opn_int {e:TypeId} {k:IntKind} (he:P.underlying e=some (.int k)):Opn enc P w e false (fun n=>(Lit.int k n).wf=true) fun n=>Qi (.int k n):=fun fuel cs x h=>by
 obtain⟨n,h1,_,h3⟩:=DataW.trod_int he h
 subst h1
 exact⟨n,h3,fun w' _=>rfl⟩
theorem opn_slice {t e:TypeId} {agg:Bool} {α:Type} {C:α→Prop} {f:α→Qg} (d:α) {sz:Nat} (ht:P.underlying t=some (.slice e)) (hc:P.cellsOf e=sz) (hn:0<sz) (h:Opn enc P w e agg C f):
  Opn enc P w t false (fun L:List α=>(∀a∈L,C a)∧L.length≤maxLen) fun L=>Qc sz agg L.length fun i=>f (L.getD i d):=fun fuel cs x hx=>by
 subst hc
 rcases open_slice ht hx with⟨h0,_⟩|⟨a,len,cap,m,n,D,Pl,h1,_,h3,h4,h5,_,h7⟩
 ·subst h0
  exact⟨[],⟨by simp,Nat.zero_le _⟩,fun w' _=>⟨none,0,rfl,Nat.le_refl _,Nat.zero_le _,fun h=>absurd h (Nat.lt_irrefl _)⟩⟩
 ·subst h1
  have each:∀i,i<len→∃y:α×List Value,C y.1∧w.cells? 0 (a.add (i*P.cellsOf e)) (P.cellsOf e)=some y.2∧∀w',Stands w w'→f y.1 w' (Xd agg y.2):=fun i hi=>by
   obtain⟨cs',k1,k2⟩:=h7 i (by rw[h5]; simp; omega)
   obtain⟨y,k3,k4⟩:=h _ _ _ k2
   exact⟨(y,cs'),k3,k1,k4⟩
  have:Inhabited (α×List Value):=⟨(d,[])⟩
  obtain⟨y,hy⟩:=choose_lt each
  refine⟨(List.range len).map fun i=>(y i).1,⟨fun b hb=>?_,by simp; omega⟩,fun w' hw=>?_⟩
  ·obtain⟨i,hi,rfl⟩:=List.mem_map.1 hb
   exact(hy i (List.mem_range.1 hi)).1
  ·have hl:((List.range len).map fun i=>(y i).1).length=len:=by simp
   show Qc _ _ _ _ _ _
   rw[hl]
   refine⟨some a,cap,rfl,h3,h4,fun h0=>?_⟩
   have hspot:a.spot=none:=by
    obtain⟨_,k2,_⟩:=hy 0 h0
    obtain⟨_,k3,k4⟩:=World.cells?_some k2
    have k5:=k4 0 hn
    cases hs:a.spot with
    |none=>rfl
    |some s=>
     exfalso
     rw[List.getElem?_eq_getElem (by omega)]at k5
     unfold World.cell? Addr.add at k5
     split at k5
     ·simp[hs]at k5
     ·cases k5
   obtain⟨b,o,s⟩:=a
   simp only at hspot
   subst hspot
   refine⟨b,o,rfl,fun i hi=>?_⟩
   obtain⟨_,k2,k3⟩:=hy i hi
   obtain⟨_,k4,k5⟩:=World.cells?_some k2
   have add2:∀n:Nat,(⟨b,o,none⟩:Addr).add n=⟨b,o+n,none⟩:=fun n=>by
    unfold Addr.add
    split
    ·rename_i h
     rw[h]
     rfl
    ·rfl
   refine⟨(y i).2,k4,fun j u hj=>hw _ _ ?_,?_⟩
   ·have hjl:j<P.cellsOf e:=by
     rw[← k4]
     exact(List.getElem?_eq_some_iff.1 hj).1
    have:=k5 j hjl
    rw[hj,add2]at this
    have e2:(⟨b,o+i*P.cellsOf e,none⟩:Addr).add j=⟨b,o+i*P.cellsOf e+j,none⟩:=by
     unfold Addr.add
     split
     ·rename_i h
      rw[h]
      rfl
     ·rfl
    rw[e2]at this
    exact this
   ·have e1:((List.range len).map fun i=>(y i).1).getD i d=(y i).1:=by
     rw[List.getD_eq_getElem?_getD,List.getElem?_map,List.getElem?_range hi]
     rfl
    show f (((List.range len).map fun i=>(y i).1).getD i d) w' _
    rw[e1]
    exact k3 w' hw
theorem Opn.arg {t e:TypeId} {α:Type} {C:α→Prop} {f:α→Qg} {v:Value} {d:DataW H} {p:List MemPlace} {r:Reach} {b0:Nat} (h:Opn enc P w t false C f) (ht:P.underlying t=some (.slice e)) (hv:Value.okWide P w r b0 t v) (hd:DataW.Trod enc P w 0 (fun _=>true) true t v d p):
  ∃a:α,C a∧∀w',Ext (fun _ _=>False) w w'→f a w' v:=by
 obtain⟨fuel,hx⟩:=hd
 obtain⟨A,n,cap,rfl⟩:=okWide_slice ht hv
 obtain⟨a,h1,h2⟩:=h _ _ _ hx
 exact⟨a,h1,fun w' he=>h2 w' (stands_of (fun _ _ h=>h) he)⟩
end
end Wx

namespace Wx
open Go Go.RowKit Go.Proofs Go.ChangeShapes Go.WideShapes Go.ChangeAt Go.Deep

section
variable {H:Type} {enc:TypeId×Value→H} {P:Program} {w:World}
def OpnFs {H:Type} (enc:TypeId×Value→H) (P:Program) (w:World) (N o:Nat) (ts:List (TypeId×Nat)) {α:Type} (C:α→Prop) (F:α→List Fd):Prop:=
 ∀(fuel:Nat) (cs:List Value),cs.length=N→(∀p,p∈ts→∃x:DataW H×List MemPlace,DataW.trod enc P w 0 (fun _=>true) true fuel p.1 ((cs.drop p.2).take (P.cellsOf p.1))=some x)→∃a:α,C a∧∀w',Stands w w'→Zc (F a) w' (cs.drop o)
theorem opnFs_nil {N:Nat}:OpnFs enc P w N N [] (fun _:Unit=>True) fun _=>[]:=fun _ _ hl _=>⟨(),trivial,fun _ _=>List.drop_eq_nil_of_le (Nat.le_of_eq hl)⟩
theorem opnFs_cons {e:TypeId} {N o n:Nat} {agg:Bool} {α β:Type} {C:α→Prop} {f:α→Qg} {D:β→Prop} {F:β→List Fd} {ts:List (TypeId×Nat)} (h:Opn enc P w e agg C f) (hn:P.cellsOf e=n) (hle:o+n≤N) (r:OpnFs enc P w N (o+n) ts D F):
  OpnFs enc P w N o ((e,o)::ts) (fun p:α×β=>C p.1∧D p.2) fun p=>⟨agg,n,f p.1⟩::F p.2:=fun fuel cs hl hp=>by
 obtain⟨x,hx⟩:=hp (e,o) (List.mem_cons_self ..)
 have hx:DataW.trod enc P w 0 (fun _=>true) true fuel e ((cs.drop o).take (P.cellsOf e))=some x:=hx
 rw[hn]at hx
 obtain⟨a,ha,hf⟩:=h _ _ _ hx
 obtain⟨b,hb,hg⟩:=r fuel cs hl fun p hp'=>hp p (List.mem_cons_of_mem _ hp')
 refine⟨(a,b),⟨ha,hb⟩,fun w' hw=>⟨?_,hf w' hw,?_⟩⟩
 ·show n≤(cs.drop o).length
  rw[List.length_drop]
  omega
 ·show Zc (F b) w' ((cs.drop o).drop n)
  rw[List.drop_drop]
  exact hg w' hw
theorem opn_struct {t:TypeId} {fs:Array Field} {N:Nat} {ts:List (TypeId×Nat)} {α:Type} {C:α→Prop} {F:α→List Fd} (ht:P.underlying t=some (.struct fs)) (hN:P.cellsOf t=N) (hts:fs.toList.map (fun f=>(f.type,f.offset))=ts) (h:OpnFs enc P w N 0 ts C F):Opn enc P w t true C fun a=>pS (F a):=fun fuel cs x hx=>by
 obtain⟨xs,n,_,_,hl,hlen,hg⟩:=DataW.trod_struct ht hx
 obtain⟨a,ha,hf⟩:=h n cs (hl.trans hN) fun p hp=>by
  rw[← hts]at hp
  obtain⟨f,hf,rfl⟩:=List.mem_map.1 hp
  obtain⟨i,hi⟩:=List.mem_iff_getElem?.1 hf
  have hi':fs[i]?=some f:=by rw[← Array.getElem?_toList]; exact hi
  have hlt:i<xs.length:=by
   rw[hlen]
   rcases Nat.lt_or_ge i fs.size with h'|h'
   ·exact h'
   ·rw[Array.getElem?_eq_none h']at hi'; cases hi'
  exact⟨xs[i],(hg i f hi').trans (List.getElem?_eq_getElem hlt)⟩
 exact⟨a,ha,fun w' hw=>⟨cs,rfl,hf w' hw⟩⟩
end
end Wx

namespace Wx
open Go Go.RowKit Go.Proofs

end Wx

namespace Wx
open Go Go.RowKit Go.Proofs Go.ChangeShapes Go.WideShapes Go.ChangeAt Go.Joins Go.Deep

section
variable {H:Type} {enc:TypeId×Value→H} {P:Program} {w:World} {base:Nat} {spare:Nat→Bool} {held:Bool}
end
section
variable {H:Type} {enc:TypeId×Value→H} {w:World} {base:Nat} {spare:Nat→Bool} {held:Bool}
end
end Wx

namespace Wx
open Go Go.RowKit Go.Proofs

theorem sg_mul (a b:Bool) (m n:Nat):sg (a != b) (m*n)=sg a m*sg b n:=by
 cases a<;>cases b<;>simp[sg,Int.mul_neg,Int.neg_mul]
theorem mul_red (x y:Rat):x*y=Yf (decide (x.num<0) != decide (y.num<0)) (x.num.natAbs*y.num.natAbs) (x.den*y.den):=by
 unfold Yf
 rw[Rat.mul_def',sg_mul,sg_mk,sg_mk]
theorem inv_red (y:Rat) (hy:y.num≠0):y⁻¹=Yf (decide (y.num<0)) y.den y.num.natAbs:=by
 rw[Rat.inv_def]
 generalize y.num=z at *
 generalize y.den=d
 unfold Yf
 match z,hy with
 |Int.ofNat k,hy=>
  have:¬((Int.ofNat k)<0):=by have:=Int.natCast_nonneg k; exact Int.not_lt.2 this
  rw[decide_eq_false this]
  exact Rat.divInt_ofNat _ _
 |Int.negSucc k,hy=>
  have:(Int.negSucc k)<0:=Int.negSucc_lt_zero k
  rw[decide_eq_true this]
  show Rat.normalize (-(d:Int)) (k+1) (by omega)=mkRat (-(d:Int)) (k+1)
  rw[Rat.mkRat_def,dif_neg (by omega)]
theorem div_red (x y:Rat) (hy:y.num≠0):x/y=Yf (decide (x.num<0) != decide (y.num<0)) (x.num.natAbs*y.den) (x.den*y.num.natAbs):=by
 rw[Rat.div_def,inv_red y hy]
 conv=>lhs; rw[← Rat.mkRat_self x]
 unfold Yf
 rw[Rat.mkRat_mul_mkRat,sg_mul,sg_mk]
theorem sg_den (z:Int) (d:Nat):z*d=sg (decide (z<0)) (z.natAbs*d):=by
 have h:=sg_mul (decide (z<0)) false z.natAbs d
 rw[show(decide (z<0) != false)=decide (z<0) by cases decide (z<0)<;>rfl,sg_mk]at h
 rw[h]; rfl
theorem add_red (x y:Rat):x+y=mkRat (sg (decide (x.num<0)) (x.num.natAbs*y.den)+sg (decide (y.num<0)) (y.num.natAbs*x.den)) (x.den*y.den):=by
 rw[Rat.add_def',sg_den,sg_den]
theorem sg_add (a:Bool) (m n:Nat):sg a m+sg a n=sg a (m+n):=by cases a<;>simp[sg]; omega
theorem sg_sub1 (a:Bool) {m n:Nat} (h:n≤m):sg a m+sg (!a) n=sg a (m-n):=by cases a<;>simp[sg]<;>omega
theorem sg_sub2 (a:Bool) {m n:Nat} (h:m≤n):sg a m+sg (!a) n=sg (!a) (n-m):=by cases a<;>simp[sg]<;>omega
theorem bne_of_ne {a b:Bool} (h:¬a=b):b=!a:=by cases a<;>cases b<;>simp_all
theorem Qf6 (x y:Rat) (h:decide (x.num<0)=decide (y.num<0)):x+y=Yf (decide (x.num<0)) (x.num.natAbs*y.den+y.num.natAbs*x.den) (x.den*y.den):=by
 rw[add_red,← h,sg_add]; rfl
theorem add_ge (x y:Rat) (h:¬decide (x.num<0)=decide (y.num<0)) (hge:y.num.natAbs*x.den≤x.num.natAbs*y.den):x+y=Yf (decide (x.num<0)) (x.num.natAbs*y.den-y.num.natAbs*x.den) (x.den*y.den):=by
 rw[add_red,bne_of_ne h,sg_sub1 _ hge]; rfl
theorem add_lt (x y:Rat) (h:¬decide (x.num<0)=decide (y.num<0)) (hge:x.num.natAbs*y.den≤y.num.natAbs*x.den):x+y=Yf (decide (y.num<0)) (y.num.natAbs*x.den-x.num.natAbs*y.den) (x.den*y.den):=by
 rw[add_red,bne_of_ne h,sg_sub2 _ hge]; rfl
theorem BdR.mul {j k:Nat} {x y:Rat} (h:BdR j x) (g:BdR k y):BdR (j+k) (x*y):=by
 rw[mul_red]
 exact Un (Nat.mul_pos x.den_pos y.den_pos) (h.1.mul g.1) (h.2.mul g.2)
theorem BdR.div {j k:Nat} {x y:Rat} (h:BdR j x) (g:BdR k y) (hy:y.num≠0):BdR (j+k) (x/y):=by
 rw[div_red _ _ hy]
 exact Un (Nat.mul_pos x.den_pos (by omega)) (h.1.mul g.2) (h.2.mul g.1)
theorem BdR.neg {j:Nat} {x:Rat} (h:BdR j x):BdR j (-x):=⟨by rw[Rat.neg_num,Int.natAbs_neg]; exact h.1,h.2⟩
theorem BdR.add {j k:Nat} {x y:Rat} (h:BdR j x) (g:BdR k y):BdR (j+k+j+k+1) (x+y):=by
 have a:=h.1.mul g.2
 have b:=g.1.mul h.2
 have d:=h.2.mul g.2
 have hd:=Nat.mul_pos x.den_pos y.den_pos
 have ab:Bd (j+k+j+k+1) (x.num.natAbs*y.den+y.num.natAbs*x.den):=(a.add b).mono (by omega)
 have d':Bd (j+k+j+k+1) (x.den*y.den):=d.mono (by omega)
 by_cases hs:decide (x.num<0)=decide (y.num<0)
 ·rw[Qf6 x y hs]; exact Un hd ab d'
 ·by_cases hge:y.num.natAbs*x.den≤x.num.natAbs*y.den
  ·rw[add_ge x y hs hge]; exact Un hd (ab.le (by omega)) d'
  ·rw[add_lt x y hs (by omega)]; exact Un hd (ab.le (by omega)) d'
end Wx
