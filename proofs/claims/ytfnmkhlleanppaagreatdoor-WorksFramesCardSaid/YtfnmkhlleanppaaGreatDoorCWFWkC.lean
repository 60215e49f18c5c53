import Derived.Laws.IdiomStrings
import Derived.Test.YtfnmkhlleanppaaGreatDoorCWFAuto14
namespace Wx
open Go Go.RowKit Go.Proofs
set_option linter.unusedVariables false
section
variable {α:Type} {F:α->Pred} {P:Program} {ops:Array Oper} {ms:List Nat} {c:bO} {V:List Vr} {A:List Al} {G:List aK} {i d:Nat} {x y:Operand} {ty:TypeId} {pos:String} {ax:Array Edge}{T:TypeId}
theorem zy {p:Pred} (E:TypeId) (z:Value) (ht:eO P T E 1:=by exact⟨by kernel_rfl,λ_=>by kernel_rfl⟩) (jC:∀w,(zeroValue E).run P w=.ok z w:=by exactλ_=>by kernel_rfl) (lB:z.cells=#[z]:=by exact rfl) (hf:Fits 1 false p) (h1:Has ms G i x p:=by exact hs) (hp:Post G i (az 1 false 1 λ_=>p):=by exact pt rfl):
  OpOk P ops ms c V A G i ⟨some d,.buildSlice T 1 #[(0,x)],ty,pos,ax,none⟩:=kB (z:=[z]) ht jC lB rfl (by decide) h1 hf hp
theorem Dx (E:TypeId) {m n:Int} (ht:eO P T E 1:=by exact⟨by kernel_rfl,λ_=>by kernel_rfl⟩) (jC:∀w,(zeroValue E).run P w=.ok (.int .u8 0) w:=by exactλ_=>by kernel_rfl) (h1:Has ms G i x (fO m):=by exact hs) (h2:Has ms G i y (fO n):=by exact hs) (hp:Post G i (rj 1 false 2 λk=>fO ([m,n].getD k 0)):=by exact pt rfl):
  OpOk P ops ms c V A G i ⟨some d,.buildSlice T 2 #[(0,x),(1,y)],ty,pos,ax,none⟩:=
 gA (z:=[.int .u8 0]) (fs:=[⟨false,1,ay⟩,⟨false,1,ay⟩]) (ps:=[(0,fO m),(1,fO n)]) (gs:=[⟨false,1,fO m⟩,⟨false,1,fO n⟩]) (p:=ay) ht jC rfl rfl (by decide) (λ_=>trivial) rfl
  (show bW ms G i [⟨false,1,ay⟩,⟨false,1,ay⟩] [(0,x),(1,y)] [(0,fO m),(1,fO n)]from⟨⟨rfl,h1,_,rfl,aZ (cF _) rfl rfl⟩,⟨rfl,h2,_,rfl,aZ (cF _) rfl rfl⟩,trivial⟩) rfl (λk=>fO ([m,n].getD k 0)) (λk f h=>by
   match k,h with
   |0,h=>simp at h; rw[<-h]; rfl
   |1,h=>simp at h; rw[<-h]; rfl
   |k+2,h=>simp at h) hp
theorem nI (s:ByteArray):(byteCells s).length=s.size*1:=by
 unfold byteCells
 rw[List.length_map,Array.length_toList,Nat.mul_one]
 rfl
variable {s:ByteArray}
theorem tH:∀u∈byteCells s,dx u/\u.oneCell'=true:=λu hu=>by
 obtain⟨_,_,rfl⟩:=List.mem_map.1 hu
 exact⟨cF _,rfl⟩
variable {k:Nat}
theorem wm (hk:k<s.size):((byteCells s).drop (k*1)).take 1=[.int .u8 (bE s k)]:=by
 have h':k<(byteCells s).length:=by rw[nI]; omega
 rw[Nat.mul_one,List.drop_eq_getElem_cons h',List.take_succ_cons,List.take_zero]
 congr 1
 have h2:k<s.data.toList.length:=by rw[Array.length_toList]; exact hk
 refine(List.getElem_map (l:=s.data.toList) (i:=k) (λb:UInt8=>Value.int .u8 b.toNat) (h:=h')).trans ?_
 unfold bE
 rw[List.getD_eq_getElem?_getD,List.getElem?_eq_getElem h2,Option.getD_some]
def tD (P:Program) (T tx E:TypeId):Bool:=
 (match P.underlying T with|some (.slice E')=>E'==E|_=>false)&&(match P.underlying tx with|some .string=>true|_=>false) &&
 (match P.info? E with
  |some ti=>(ti.size==1&&decide (ti.bytes<=4096))&&(match ti.zero with|some zv=>zv.cells.size==1&&zv.cells.toList.all AH|none=>false)
  |none=>false)
variable {tx E:TypeId} {f:Nat->Pred} {yv:Vr}
theorem oG {m:Nat} (k2:Nat) (hk2:V[k2]?=some yv) (hb:yv.born=some i) (cK:yv.kd=.grow (m+s.size) 1)
  (Bl:yv.T=E) (hal:(A.all λp=>p.var != yv.id||p.tag.any λj=>(ms.getD j 0).testBit i)=true)
  (h1:Has ms G i x (rj 1 false m f)) (h2:Has ms G i y (pT s)) (ht:tD P T tx E=true) (hf:∀i,i<m->Fits 1 false (f i)) (hn:0<s.size) (hmax:m+s.size<=1073741824)
  (hp:Post G i (az 1 false (m+s.size) λj=>if j<m then f j else fO (bE s (j-m)))):
  OpOk P ops ms c V A G i ⟨some d,.call ⟨.builtin .append,#[x,y],#[T,tx]⟩,ty,pos,ax,none⟩:=by
 unfold tD at ht
 simp only[Bool.and_eq_true]at ht
 obtain⟨⟨Br,E4⟩,Dd⟩:=ht
 have hun:P.underlying T=some (.slice E):=by
  split at Br
  ·rename_i E' he
   rw[he,eq_of_beq Br]
  ·cases Br
 have Ab:P.underlying tx=some .string:=by
  split at E4
  ·assumption
  ·cases E4
 have hinfo:∃ti zv,P.info? E=some ti/\ti.size=1/\ti.zero=some zv/\zv.cells.size=1/\(∀u∈zv.cells.toList,dx u)/\ti.bytes<=4096:=by
  split at Dd
  ·rename_i ti he
   simp only[Bool.and_eq_true]at Dd
   obtain⟨⟨h4,h5⟩,h6⟩:=Dd
   split at h6
   ·rename_i zv hz
    simp only[Bool.and_eq_true,List.all_eq_true]at h6
    exact⟨ti,zv,he,eq_of_beq h4,hz,eq_of_beq h6.1,λu hu=>lS (h6.2 u hu),of_decide_eq_true h5⟩
   ·cases h6
  ·cases Dd
 refine dz (λL β a w hI hd hwf=>?_) rfl
 have hy:=List.mem_of_getElem? hk2
 obtain⟨⟨A0,e0⟩,_⟩:=(h1.spec hI hd).out
 obtain⟨A1,dO,olds,tM,F2,zP,lN,zY,Ec,vU⟩:=gD (λ_=>rfl) hf ((h1.spec hI hd).imp λ_ h=>h.2)
 have zI:a.eval y=.string s:=(h2.spec hI hd).out
 have ie:=nI s
 obtain⟨ti,zv,hi,hsz,hz,hzs,Ae,hby⟩:=hinfo
 have hS:Src P ti.size tx (a.eval y) s.size (byteCells s) w:=by
  rw[zI,hsz]
  exact Src.ofString w Ab s
 have hcap:dO=m:=by
  rw[tM]at e0
  injection e0 with _ _ e
 subst hcap
 have hold:(Builtin.firstCells ti.size dO (.slice A1 dO dO)).run P w.drew=.ok olds.toArray w.drew:=by
  rw[hsz]
  rcases Nat.eq_zero_or_pos dO with h0|hpos
  ·subst h0
   have Eb:olds=[]:=List.eq_nil_of_length_eq_zero (by rw[lN])
   rw[Eb]
   cases A1 with
   |none=>exact run_firstCells_none w.drew 1 0 0 0
   |some p=>exact run_firstCells_some w.drew 1 0 p 0 0 [] (by simp) λj u hj=>by simp at hj
  ·obtain⟨b,o,rfl,hc⟩:=Ec hpos
   exact run_firstCells_some w.drew 1 dO ⟨b,o,none⟩ dO dO olds lN λj u hj=>by rw[Addr.add_mid]; exact(hc j u hj).1
 have hrun:=run_append_grow_src (P:=P) w T tx ty E ti zv hun hi hz A1 dO dO olds hold (a.eval y) s.size (byteCells s) hS (by omega) (by omega) (growslice_fits (by omega) (by
   have:(dO+s.size)*ti.bytes<=1073741824*4096:=Nat.mul_le_mul hmax hby
   omega))
 have hge:=grownCap_ge w (dO+s.size) dO E
 have hb0:Below w.heap.size w (w.drew.alloc (.cells (olds++byteCells s++(Builtin.zeroCells zv.cells (grownCap w (dO+s.size) dO E-(dO+s.size))).toList).toArray E)):=Below.alloc (Below.drew (Below.refl _ _)) (Nat.le_refl _) _
 refine cW (v:=.slice (some ⟨w.heap.size,0,none⟩) (dO+s.size) (grownCap w (dO+s.size) dO E)) (w':=w.drew.alloc (.cells (olds++byteCells s++(Builtin.zeroCells zv.cells (grownCap w (dO+s.size) dO E-(dO+s.size))).toList).toArray E)) ?_ ?_
 ·rw[tM,hrun]
  congr 3
  apply Array.ext'
  simp
 ·refine hI.appended hd hwf (E:=E) (f:=f) (g:=λk=>fO (bE s k)) (agg:=false) hy hb cK Bl rfl rfl hal lN ie vU (λk hk w' he=>by rw[wm hk]; exact rfl) hp (heap_alloc_new w.drew _) ?_ hge (grownCap_le_maxLen w (dO+s.size) dO E (by unfold maxLen; omega)) ?_ ?_ (.inl hI.below.size) ⟨hb0.os,hb0.tape,hb0.output,hb0.size⟩ (λk hk _=>hb0.block k (Nat.lt_of_lt_of_le hk hI.below.size))
   (λz hz hl _ k hk=>⟨hb0.block k (bD hI hz hl hk),λe=>absurd e (Nat.ne_of_lt (bD hI hz hl hk))⟩) (Ext.aX hb0) (λz hz hl _=>Ext.aX hb0) (λj hj=>absurd hj (Nat.lt_irrefl _))
  ·rw[List.length_append,List.length_append,lN,ie,Array.length_toList,size_zeroCells,hzs,Nat.mul_one,Nat.mul_one,Nat.mul_one,Nat.mul_one]
   omega
  ·intro u hu
   rcases List.mem_append.1 hu with hu|hu
   ·rcases List.mem_append.1 hu with hu|hu
    ·exact(zY u hu).1
    ·exact(tH u hu).1
   ·exact dL Ae _ u hu
  ·rw[<-show(olds++byteCells s).length=(dO+s.size)*1 by rw[List.length_append,lN,ie,Nat.add_mul],List.take_left]
variable {r:ByteArray}
theorem wo (h:s.size=r.size) (h2:∀k,k<s.size->bE s k=bE r k):s=r:=by
 refine ByteArray.ext (Array.ext h λk h1 h3=>?_)
 have:=h2 k h1
 rw[dK h1,dK (h▸h1:k<r.size)]at this
 exact UInt8.toNat_inj.1 (Int.ofNat.inj this)
theorem eG {a b:Nat} (h:a+k<b) (hb:b<=s.size):bE (s.extract a b) k=bE s (a+k):=by
 rw[dK (s:=s) (by omega),dK (s:=s.extract a b) (by rw[ByteArray.size_extract]; omega),ByteArray.getElem_extract]
theorem fG:bE (s++r) k=if k<s.size then bE s k else bE r (k-s.size):=by
 unfold bE
 rw[show(s++r).data=s.data++r.data from ByteArray.data_append,Array.toList_append,List.getD_eq_getElem?_getD]
 by_cases h:k<s.size
 ·rw[if_pos h,List.getElem?_append_left (by rw[Array.length_toList]; exact h),List.getD_eq_getElem?_getD]
 ·rw[if_neg h,List.getElem?_append_right (by rw[Array.length_toList]; exact Nat.not_lt.1 h),List.getD_eq_getElem?_getD,Array.length_toList]
  rfl
variable {n:Nat}
theorem vw {g:Nat->Pred} (hn:n=s.size) (h:∀k,k<n->∀w v,g k w v->fO (bE s k) w v):∀w v,az 1 false n g w v->fl s w v:=by
 subst hn
 exact dS h
theorem Fv {m n:Int} (q:ByteArray) (hr:r.size=2/\bE r 0=m/\bE r 1=n) (hv:qE i V=some yv:=by exact rfl) (h1:Has ms G i x (rj 1 false 2 λk=>fO ([m,n].getD k 0)):=by exact hs) (h2:Has ms G i y (pT s):=by exact hs) (hp:Post G i (az 1 false (2+s.size) λk=>fO (bE ((r++s)++q) k)):=by exact pt rfl) (cK:yv.kd=.grow (2+s.size) 1:=by exact rfl) (hn:0<s.size:=by omega) (hmax:s.size<=1000000:=by omega)
  (ht:tD P T tx yv.T=true:=by kernel_rfl) (hal:(A.all λp=>p.var != yv.id||p.tag.any λj=>(ms.getD j 0).testBit i)=true:=by kernel_rfl):OpOk P ops ms c V A G i ⟨some d,.call ⟨.builtin .append,#[x,y],#[T,tx]⟩,ty,pos,ax,none⟩:=by
 obtain⟨⟨k,hk⟩,hb⟩:=dN hv
 refine oG k hk hb cK rfl hal h1 h2 ht (λ_ _=>aZ (cF _) rfl rfl) hn (by omega) (hp.down (dS λk hk w v h=>?_))
 rw[fG,if_pos (by rw[ByteArray.size_append]; omega),fG,hr.1]
 by_cases hk2:k<2
 ·rw[if_pos hk2]at h ⊢
  match k,hk2,h with
  |0,_,h=>rw[hr.2.1]; exact h
  |1,_,h=>rw[hr.2.2]; exact h
 ·rw[if_neg hk2]at h ⊢
  exact h
variable {sz:Nat} {ag:Bool}
theorem kL {w:World} {l h cap:Nat} {A':Option Addr} (hl:l<=h) (hh:h<=n) (k:az sz ag n f w (.slice A' n cap)):az sz ag (h-l) (λk=>f (l+k)) w (sliced A' l h cap sz):=by
 obtain⟨A2,nM,e2,h3,h4,h5⟩:=k
 injection e2 with e1 _ e4
 subst e1 e4
 refine⟨_,cap-l,rfl,by omega,by omega,λhpos=>?_⟩
 obtain⟨b,o,rfl,hf⟩:=h5 (by omega)
 refine⟨b,o+l*sz,by rw[if_neg (by omega:¬cap=l)]; show some (Addr.add _ _)=_; rw[Addr.add_mid],λq hq=>?_⟩
 obtain⟨cs,c1,c2,c3⟩:=hf (l+q) (by omega)
 refine⟨cs,c1,λj u hj=>?_,c3⟩
 have:=c2 j u hj
 rw[Nat.add_mul]at this
 rw[show o+l*sz+q*sz+j=o+(l*sz+q*sz)+j by omega]
 exact this
variable {z:Operand}
theorem EA (l h:Nat) (hr:Has ms G i x (az sz ag n f)) (hy:Has ms G i y (pI (l:Int))) (hz:Has ms G i z (pI (h:Int))) (hl:l<=h) (hh:h<=n) (ht:eO P T E sz) (hp:Post G i (az sz ag (h-l) λk=>f (l+k))):OpOk P ops ms c V A G i ⟨some d,.slice T x (some y) (some z) none,ty,pos,ax,none⟩:=
 bz rfl rfl rfl (.inl rfl) hp λL β a w hI hd=>by
  have k:=hr.spec hI hd
  obtain⟨A',cap,ex,h1,h2,_⟩:=k.out
  have ex:a.eval x=.slice A' n cap:=ex
  have ey:a.eval y=.int .i64 l:=(hy.spec hI hd).out
  have ez:a.eval z=.int .i64 h:=(hz.spec hI hd).out
  rw[ex]at k
  refine⟨sliced A' l h cap sz,w,?_,Below.refl _ _,k.imp λw' kk=>kL hl hh kk⟩
  show(do pure (Next.value (<-Instr.sliceAt T (a.eval x) (some (a.eval y)) (some (a.eval z)) none))).run P w=_
  rw[ex,ey,ez]
  have e1:(Instr.sliceBound (.int .i64 (l:Int)) h .sliceB).run P w=.ok l w:=by
   have:=run_sliceBound (P:=P) w .i64 (l:Int) h .sliceB (by omega) (by omega)
   simpa using this
  have e2:(Instr.sliceBound (.int .i64 (h:Int)) cap .sliceAcap).run P w=.ok h w:=by
   have:=run_sliceBound (P:=P) w .i64 (h:Int) cap .sliceAcap (by omega) (by omega)
   simpa using this
  have hr:(Instr.sliceAt T (.slice A' n cap) (some (.int .i64 l)) (some (.int .i64 h)) none).run P w=.ok (sliced A' l h cap sz) w:=by
   simp only[Instr.sliceAt,Sem.run_bind,run_underlying ht.under,Result.andThen_ok,Instr.slice,Instr.sliceBounds,Sem.run_pure]
   simp only[if_true,Option.isSome_none,Bool.false_eq_true,if_false,e1,e2,Result.andThen_ok,ht.size w,sliced]
  rw[Sem.run_bind,hr]
  rfl
theorem EB (l:Nat) (hr:Has ms G i x (az sz ag n f)) (hy:Has ms G i y (pI (l:Int))) (hl:l<=n) (ht:eO P T E sz) (hp:Post G i (az sz ag (n-l) λk=>f (l+k))):OpOk P ops ms c V A G i ⟨some d,.slice T x (some y) none none,ty,pos,ax,none⟩:=
 bz rfl rfl rfl (.inl rfl) hp λL β a w hI hd=>by
  have k:=hr.spec hI hd
  obtain⟨A',cap,ex,h1,h2,_⟩:=k.out
  have ex:a.eval x=.slice A' n cap:=ex
  have ey:a.eval y=.int .i64 l:=(hy.spec hI hd).out
  rw[ex]at k
  refine⟨sliced A' l n cap sz,w,?_,Below.refl _ _,k.imp λw' kk=>kL hl (Nat.le_refl _) kk⟩
  show(do pure (Next.value (<-Instr.sliceAt T (a.eval x) (some (a.eval y)) none none))).run P w=_
  rw[ex,ey]
  have e1:(Instr.sliceBound (.int .i64 (l:Int)) n .sliceB).run P w=.ok l w:=by
   have:=run_sliceBound (P:=P) w .i64 (l:Int) n .sliceB (by omega) (by omega)
   simpa using this
  have hr:(Instr.sliceAt T (.slice A' n cap) (some (.int .i64 l)) none none).run P w=.ok (sliced A' l n cap sz) w:=by
   simp only[Instr.sliceAt,Sem.run_bind,run_underlying ht.under,Result.andThen_ok,Instr.slice,Instr.sliceBounds,Sem.run_pure]
   simp only[Option.isSome_none,Bool.false_eq_true,if_false,e1,Result.andThen_ok,ht.size w,sliced]
  rw[Sem.run_bind,hr]
  rfl
theorem Du (l h:Nat) (hr:Has ms G i x (fl s):=by exact hs) (hy:Has ms G i y (pI (l:Int)):=by exact(Wx.hs).imp (bM (by omega))) (hz:Has ms G i z (pI (h:Int)):=by exact(Wx.hs).imp (bM (by omega))) (hl:l<=h:=by omega) (hh:h<=s.size:=by omega) (ht:za P T 1=true:=by kernel_rfl) (hp:Post G i (fl (s.extract l h)):=by exact pt rfl):OpOk P ops ms c V A G i ⟨some d,.slice T x (some y) (some z) none,ty,pos,ax,none⟩:=by
 obtain⟨E,hE⟩:=jm ht
 exact EA l h hr hy hz hl hh hE (hp.down (vw (by rw[ByteArray.size_extract]; omega) λk hk w v e=>by rw[eG (by omega) hh]; exact e))
theorem bL (l:Nat) (hr:Has ms G i x (fl s):=by exact hs) (hy:Has ms G i y (pI (l:Int)):=by exact(Wx.hs).imp (bM (by omega))) (hl:l<=s.size:=by omega) (ht:za P T 1=true:=by kernel_rfl) (hp:Post G i (fl (s.extract l s.size)):=by exact pt rfl):OpOk P ops ms c V A G i ⟨some d,.slice T x (some y) none none,ty,pos,ax,none⟩:=by
 obtain⟨E,hE⟩:=jm ht
 exact EB l hr hy hl hE (hp.down (vw (by rw[ByteArray.size_extract]; omega) λk hk w v e=>by rw[eG (by omega) (Nat.le_refl _)]; exact e))
theorem bH (h:Nat) (hr:Has ms G i x (fl s):=by exact hs) (hy:Has ms G i y (pI (h:Int)):=by exact(Wx.hs).imp (bM (by omega))) (hh:h<=s.size:=by omega) (ht:za P T 1=true:=by kernel_rfl) (hp:Post G i (fl (s.extract 0 h)):=by exact pt rfl):OpOk P ops ms c V A G i ⟨some d,.slice T x none (some y) none,ty,pos,ax,none⟩:=by
 obtain⟨E,hE⟩:=jm ht
 exact qj hr hy hE hh (hp.down (vw (by rw[ByteArray.size_extract]; omega) λk hk w v e=>by rw[eG (by omega) hh,Nat.zero_add]; exact e))
theorem yg {S D:TypeId} (h:Has ms G i x (fl s):=by exact hs) (ht:BK P D S=true:=by kernel_rfl) (hp:Post G i (pT s):=by exact pt rfl):OpOk P ops ms c V A G i ⟨some d,.convert S D x,ty,pos,ax,none⟩:=
 bz rfl rfl rfl (.inl rfl) hp λL β a w hI hd=>by
  obtain⟨A',cap,e,h1,h2,h3⟩:=(h.spec hI hd).out
  have e:a.eval x=.slice A' s.size cap:=e
  obtain⟨k1,E,k2,k3⟩:=pE ht
  refine⟨.string s,w,?_,Below.refl _ _,λ_ _=>rfl⟩
  show(do pure (Next.value (<-Go.convert S D (a.eval x)))).run P w=_
  rw[e]
  have hr:(Go.convert S D (.slice A' s.size cap)).run P w=.ok (.string s) w:=by
   cases A' with
   |none=>
    have h0:s.size=0:=by
     rcases Nat.eq_zero_or_pos s.size with h|h
     ·exact h
     ·obtain⟨b,o,he,_⟩:=h3 h
      cases he
    have es:s=.empty:=ByteArray.ext (Array.eq_empty_of_size_eq_zero h0)
    rw[Go.run_convert_bytes_string w S D E none s.size cap k2 k3 k1,es]
    unfold Conv.bytesToString
    rfl
   |some p=>
    have hl:s.data.toList.length=s.size:=Array.length_toList
    have:=Go.run_convert_bytes_back w S D E p cap s.data.toList k2 k3 k1 λj hj=>by
     have hj':j<s.size:=by omega
     obtain⟨b,o,he,hf⟩:=h3 (by omega)
     injection he with he
     subst he
     obtain⟨cs,c1,c2,c3⟩:=hf j hj'
     have c3:ai false cs=.int .u8 (bE s j):=c3
     match cs,c1,c2,c3 with
     |[u],_,c2,c3=>
      have c2:=c2 0 u rfl
      have c3:u=.int .u8 (bE s j):=c3
      rw[c3,dK hj']at c2
      rw[Addr.add_mid]
      rw[show o+j*1+0=o+j by omega]at c2
      exact c2
    rw[hl]at this
    exact this
  rw[Sem.run_bind,hr]
  rfl
end
end Wx
