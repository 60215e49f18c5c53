import Derived.Laws.IdiomStrings
import Derived.Test.YtfnmkhlleanppaaGreatDoorCWBAuto14
namespace Wx
open Go Go.RowKit Go.Proofs
set_option linter.unusedVariables false
section
variable {α:Type} {F:α->Pred} {P:Program} {ops:Array Oper} {ms:List Nat} {c:bJ} {V:List Vr} {A:List Al} {G:List aI} {i d:Nat} {x y:Operand} {ty:TypeId} {pos:String} {au:Array Edge}{T:TypeId}
theorem wo {p:Pred} (E:TypeId) (z:Value) (ht:eX P T E 1:=by exact⟨by kernel_rfl,λ_=>by kernel_rfl⟩) (jJ:∀w,(zeroValue E).run P w=.ok z w:=by exactλ_=>by kernel_rfl) (lG:z.cells=#[z]:=by exact rfl) (hf:Fits 1 false p) (h1:Has ms G i x p:=by exact hs) (hp:Post G i (ax 1 false 1 λ_=>p):=by exact pt rfl):
  OpOk P ops ms c V A G i ⟨some d,.buildSlice T 1 #[(0,x)],ty,pos,au,none⟩:=kJ (z:=[z]) ht jJ lG rfl (by decide) h1 hf hp
theorem Dz (E:TypeId) {m n:Int} (ht:eX P T E 1:=by exact⟨by kernel_rfl,λ_=>by kernel_rfl⟩) (jJ:∀w,(zeroValue E).run P w=.ok (.int .u8 0) w:=by exactλ_=>by kernel_rfl) (h1:Has ms G i x (fD m):=by exact hs) (h2:Has ms G i y (fD n):=by exact hs) (hp:Post G i (rE 1 false 2 λk=>fD ([m,n].getD k 0)):=by exact pt rfl):
  OpOk P ops ms c V A G i ⟨some d,.buildSlice T 2 #[(0,x),(1,y)],ty,pos,au,none⟩:=
 gB (z:=[.int .u8 0]) (fs:=[⟨false,1,az⟩,⟨false,1,az⟩]) (ps:=[(0,fD m),(1,fD n)]) (gs:=[⟨false,1,fD m⟩,⟨false,1,fD n⟩]) (p:=az) ht jJ rfl rfl (by decide) (λ_=>trivial) rfl
  (show bW ms G i [⟨false,1,az⟩,⟨false,1,az⟩] [(0,x),(1,y)] [(0,fD m),(1,fD n)]from⟨⟨rfl,h1,_,rfl,aX (cX _) rfl rfl⟩,⟨rfl,h2,_,rfl,aX (cX _) rfl rfl⟩,trivial⟩) rfl (λk=>fD ([m,n].getD k 0)) (λk f h=>by
   match k,h with
   |0,h=>simp at h; rw[<-h]; rfl
   |1,h=>simp at h; rw[<-h]; rfl
   |k+2,h=>simp at h) hp
theorem nT (s:ByteArray):(byteCells s).length=s.size*1:=by
 unfold byteCells
 rw[List.length_map,Array.length_toList,Nat.mul_one]
 rfl
variable {s:ByteArray}
theorem tS:∀u∈byteCells s,dG u/\u.oneCell'=true:=λu hu=>by
 obtain⟨_,_,rfl⟩:=List.mem_map.1 hu
 exact⟨cX _,rfl⟩
variable {k:Nat}
theorem wu (hk:k<s.size):((byteCells s).drop (k*1)).take 1=[.int .u8 (bO s k)]:=by
 have h':k<(byteCells s).length:=by rw[nT]; omega
 rw[Nat.mul_one,List.drop_eq_getElem_cons h',List.take_succ_cons,List.take_zero]
 congr 1
 have h2:k<s.data.toList.length:=by rw[Array.length_toList]; exact hk
 refine(List.getElem_map (l:=s.data.toList) (i:=k) (λb:UInt8=>Value.int .u8 b.toNat) (h:=h')).trans ?_
 unfold bO
 rw[List.getD_eq_getElem?_getD,List.getElem?_eq_getElem h2,Option.getD_some]
def tO (P:Program) (T tx E:TypeId):Bool:=
 (match P.underlying T with|some (.slice E')=>E'==E|_=>false)&&(match P.underlying tx with|some .string=>true|_=>false) &&
 (match P.info? E with
  |some ti=>(ti.size==1&&decide (ti.bytes<=4096))&&(match ti.zero with|some zv=>zv.cells.size==1&&zv.cells.toList.all AK|none=>false)
  |none=>false)
variable {tx E:TypeId} {f:Nat->Pred} {yv:Vr}
theorem oP {m:Nat} (k2:Nat) (hk2:V[k2]?=some yv) (hb:yv.born=some i) (cE:yv.kd=.grow (m+s.size) 1)
  (Bp:yv.T=E) (hal:(A.all λp=>p.var != yv.id||p.tag.any λj=>(ms.getD j 0).testBit i)=true)
  (h1:Has ms G i x (rE 1 false m f)) (h2:Has ms G i y (pT s)) (ht:tO P T tx E=true) (hf:∀i,i<m->Fits 1 false (f i)) (hn:0<s.size) (hmax:m+s.size<=1073741824)
  (hp:Post G i (ax 1 false (m+s.size) λj=>if j<m then f j else fD (bO s (j-m)))):
  OpOk P ops ms c V A G i ⟨some d,.call ⟨.builtin .append,#[x,y],#[T,tx]⟩,ty,pos,au,none⟩:=by
 unfold tO at ht
 simp only[Bool.and_eq_true]at ht
 obtain⟨⟨Co,E4⟩,Di⟩:=ht
 have hun:P.underlying T=some (.slice E):=by
  split at Co
  ·rename_i E' he
   rw[he,eq_of_beq Co]
  ·cases Co
 have Ae:P.underlying tx=some .string:=by
  split at E4
  ·assumption
  ·cases E4
 have hinfo:∃ti zv,P.info? E=some ti/\ti.size=1/\ti.zero=some zv/\zv.cells.size=1/\(∀u∈zv.cells.toList,dG u)/\ti.bytes<=4096:=by
  split at Di
  ·rename_i ti he
   simp only[Bool.and_eq_true]at Di
   obtain⟨⟨h4,h5⟩,h6⟩:=Di
   split at h6
   ·rename_i zv hz
    simp only[Bool.and_eq_true,List.all_eq_true]at h6
    exact⟨ti,zv,he,eq_of_beq h4,hz,eq_of_beq h6.1,λu hu=>lZ (h6.2 u hu),of_decide_eq_true h5⟩
   ·cases h6
  ·cases Di
 refine dJ (λL β a w hI hd hwf=>?_) rfl
 have hy:=List.mem_of_getElem? hk2
 obtain⟨⟨A0,e0⟩,_⟩:=(h1.spec hI hd).out
 obtain⟨A1,dX,olds,tX,F7,zS,lU,Ab,Eg,yF⟩:=gF (λ_=>rfl) hf ((h1.spec hI hd).imp λ_ h=>h.2)
 have zK:a.eval y=.string s:=(h2.spec hI hd).out
 have ij:=nT s
 obtain⟨ti,zv,hi,hsz,hz,hzs,Ah,hby⟩:=hinfo
 have hS:Src P ti.size tx (a.eval y) s.size (byteCells s) w:=by
  rw[zK,hsz]
  exact Src.ofString w Ae s
 have hcap:dX=m:=by
  rw[tX]at e0
  injection e0 with _ _ e
 subst hcap
 have hold:(Builtin.firstCells ti.size dX (.slice A1 dX dX)).run P w.drew=.ok olds.toArray w.drew:=by
  rw[hsz]
  rcases Nat.eq_zero_or_pos dX with h0|hpos
  ·subst h0
   have Ee:olds=[]:=List.eq_nil_of_length_eq_zero (by rw[lU])
   rw[Ee]
   cases A1 with
   |none=>exact run_firstCells_none w.drew 1 0 0 0
   |some p=>exact run_firstCells_some w.drew 1 0 p 0 0 [] (by simp) λj u hj=>by simp at hj
  ·obtain⟨b,o,rfl,hc⟩:=Eg hpos
   exact run_firstCells_some w.drew 1 dX ⟨b,o,none⟩ dX dX olds lU λj u hj=>by rw[Addr.add_mid]; exact(hc j u hj).1
 have hrun:=run_append_grow_src (P:=P) w T tx ty E ti zv hun hi hz A1 dX dX olds hold (a.eval y) s.size (byteCells s) hS (by omega) (by omega) (growslice_fits (by omega) (by
   have:(dX+s.size)*ti.bytes<=1073741824*4096:=Nat.mul_le_mul hmax hby
   omega))
 have hge:=grownCap_ge w (dX+s.size) dX E
 have hb0:Below w.heap.size w (w.drew.alloc (.cells (olds++byteCells s++(Builtin.zeroCells zv.cells (grownCap w (dX+s.size) dX E-(dX+s.size))).toList).toArray E)):=Below.alloc (Below.drew (Below.refl _ _)) (Nat.le_refl _) _
 refine dc (v:=.slice (some ⟨w.heap.size,0,none⟩) (dX+s.size) (grownCap w (dX+s.size) dX E)) (w':=w.drew.alloc (.cells (olds++byteCells s++(Builtin.zeroCells zv.cells (grownCap w (dX+s.size) dX E-(dX+s.size))).toList).toArray E)) ?_ ?_
 ·rw[tX,hrun]
  congr 3
  apply Array.ext'
  simp
 ·refine hI.appended hd hwf (E:=E) (f:=f) (g:=λk=>fD (bO s k)) (agg:=false) hy hb cE Bp rfl rfl hal lU ij yF (λk hk w' he=>by rw[wu hk]; exact rfl) hp (heap_alloc_new w.drew _) ?_ hge (grownCap_le_maxLen w (dX+s.size) dX E (by unfold maxLen; omega)) ?_ ?_ (.inl hI.below.size) ⟨hb0.os,hb0.tape,hb0.output,hb0.size⟩ (λk hk _=>hb0.block k (Nat.lt_of_lt_of_le hk hI.below.size))
   (λz hz hl _ k hk=>⟨hb0.block k (bQ hI hz hl hk),λe=>absurd e (Nat.ne_of_lt (bQ hI hz hl hk))⟩) (Ext.bg hb0) (λz hz hl _=>Ext.bg hb0) (λj hj=>absurd hj (Nat.lt_irrefl _))
  ·rw[List.length_append,List.length_append,lU,ij,Array.length_toList,size_zeroCells,hzs,Nat.mul_one,Nat.mul_one,Nat.mul_one,Nat.mul_one]
   omega
  ·intro u hu
   rcases List.mem_append.1 hu with hu|hu
   ·rcases List.mem_append.1 hu with hu|hu
    ·exact(Ab u hu).1
    ·exact(tS u hu).1
   ·exact dS Ah _ u hu
  ·rw[<-show(olds++byteCells s).length=(dX+s.size)*1 by rw[List.length_append,lU,ij,Nat.add_mul],List.take_left]
variable {r:ByteArray}
theorem jM (h:s.size=r.size) (h2:∀k,k<s.size->bO s k=bO r k):s=r:=by
 refine ByteArray.ext (Array.ext h λk h1 h3=>?_)
 have:=h2 k h1
 rw[ew h1,ew (h▸h1:k<r.size)]at this
 exact UInt8.toNat_inj.1 (Int.ofNat.inj this)
theorem cD {a b:Nat} (h:a+k<b) (hb:b<=s.size):bO (s.extract a b) k=bO s (a+k):=by
 rw[ew (s:=s) (by omega),ew (s:=s.extract a b) (by rw[ByteArray.size_extract]; omega),ByteArray.getElem_extract]
theorem dn:bO (s++r) k=if k<s.size then bO s k else bO r (k-s.size):=by
 unfold bO
 rw[show(s++r).data=s.data++r.data from ByteArray.data_append,Array.toList_append,List.getD_eq_getElem?_getD]
 by_cases h:k<s.size
 ·rw[if_pos h,List.getElem?_append_left (by rw[Array.length_toList]; exact h),List.getD_eq_getElem?_getD]
 ·rw[if_neg h,List.getElem?_append_right (by rw[Array.length_toList]; exact Nat.not_lt.1 h),List.getD_eq_getElem?_getD,Array.length_toList]
  rfl
variable {n:Nat}
theorem vH {g:Nat->Pred} (hn:n=s.size) (h:∀k,k<n->∀w v,g k w v->fD (bO s k) w v):∀w v,ax 1 false n g w v->fY s w v:=by
 subst hn
 exact ej h
theorem Fy {m n:Int} (q:ByteArray) (hr:r.size=2/\bO r 0=m/\bO r 1=n) (hv:pL i V=some yv:=by exact rfl) (h1:Has ms G i x (rE 1 false 2 λk=>fD ([m,n].getD k 0)):=by exact hs) (h2:Has ms G i y (pT s):=by exact hs) (hp:Post G i (ax 1 false (2+s.size) λk=>fD (bO ((r++s)++q) k)):=by exact pt rfl) (cE:yv.kd=.grow (2+s.size) 1:=by exact rfl) (hn:0<s.size:=by omega) (hmax:s.size<=1000000:=by omega)
  (ht:tO P T tx yv.T=true:=by kernel_rfl) (hal:(A.all λp=>p.var != yv.id||p.tag.any λj=>(ms.getD j 0).testBit i)=true:=by kernel_rfl):OpOk P ops ms c V A G i ⟨some d,.call ⟨.builtin .append,#[x,y],#[T,tx]⟩,ty,pos,au,none⟩:=by
 obtain⟨⟨k,hk⟩,hb⟩:=dF hv
 refine oP k hk hb cE rfl hal h1 h2 ht (λ_ _=>aX (cX _) rfl rfl) hn (by omega) (hp.down (ej λk hk w v h=>?_))
 rw[dn,if_pos (by rw[ByteArray.size_append]; omega),dn,hr.1]
 by_cases hk2:k<2
 ·rw[if_pos hk2]at h ⊢
  match k,hk2,h with
  |0,_,h=>rw[hr.2.1]; exact h
  |1,_,h=>rw[hr.2.2]; exact h
 ·rw[if_neg hk2]at h ⊢
  exact h
variable {sz:Nat} {ag:Bool}
theorem kT {w:World} {l h cap:Nat} {A':Option Addr} (hl:l<=h) (hh:h<=n) (k:ax sz ag n f w (.slice A' n cap)):ax sz ag (h-l) (λk=>f (l+k)) w (sliced A' l h cap sz):=by
 obtain⟨A2,nY,e2,h3,h4,h5⟩:=k
 injection e2 with e1 _ e4
 subst e1 e4
 refine⟨_,cap-l,rfl,by omega,by omega,λhpos=>?_⟩
 obtain⟨b,o,rfl,hf⟩:=h5 (by omega)
 refine⟨b,o+l*sz,by rw[if_neg (by omega:¬cap=l)]; show some (Addr.add _ _)=_; rw[Addr.add_mid],λq hq=>?_⟩
 obtain⟨cs,c1,c2,c3⟩:=hf (l+q) (by omega)
 refine⟨cs,c1,λj u hj=>?_,c3⟩
 have:=c2 j u hj
 rw[Nat.add_mul]at this
 rw[show o+l*sz+q*sz+j=o+(l*sz+q*sz)+j by omega]
 exact this
variable {z:Operand}
theorem Ey (l h:Nat) (hr:Has ms G i x (ax sz ag n f)) (hy:Has ms G i y (pI (l:Int))) (hz:Has ms G i z (pI (h:Int))) (hl:l<=h) (hh:h<=n) (ht:eX P T E sz) (hp:Post G i (ax sz ag (h-l) λk=>f (l+k))):OpOk P ops ms c V A G i ⟨some d,.slice T x (some y) (some z) none,ty,pos,au,none⟩:=
 bk rfl rfl rfl (.inl rfl) hp λL β a w hI hd=>by
  have k:=hr.spec hI hd
  obtain⟨A',cap,ex,h1,h2,_⟩:=k.out
  have ex:a.eval x=.slice A' n cap:=ex
  have ey:a.eval y=.int .i64 l:=(hy.spec hI hd).out
  have ez:a.eval z=.int .i64 h:=(hz.spec hI hd).out
  rw[ex]at k
  refine⟨sliced A' l h cap sz,w,?_,Below.refl _ _,k.imp λw' kk=>kT hl hh kk⟩
  show(do pure (Next.value (<-Instr.sliceAt T (a.eval x) (some (a.eval y)) (some (a.eval z)) none))).run P w=_
  rw[ex,ey,ez]
  have e1:(Instr.sliceBound (.int .i64 (l:Int)) h .sliceB).run P w=.ok l w:=by
   have:=run_sliceBound (P:=P) w .i64 (l:Int) h .sliceB (by omega) (by omega)
   simpa using this
  have e2:(Instr.sliceBound (.int .i64 (h:Int)) cap .sliceAcap).run P w=.ok h w:=by
   have:=run_sliceBound (P:=P) w .i64 (h:Int) cap .sliceAcap (by omega) (by omega)
   simpa using this
  have hr:(Instr.sliceAt T (.slice A' n cap) (some (.int .i64 l)) (some (.int .i64 h)) none).run P w=.ok (sliced A' l h cap sz) w:=by
   simp only[Instr.sliceAt,Sem.run_bind,run_underlying ht.under,Result.andThen_ok,Instr.slice,Instr.sliceBounds,Sem.run_pure]
   simp only[if_true,Option.isSome_none,Bool.false_eq_true,if_false,e1,e2,Result.andThen_ok,ht.size w,sliced]
  rw[Sem.run_bind,hr]
  rfl
theorem Ez (l:Nat) (hr:Has ms G i x (ax sz ag n f)) (hy:Has ms G i y (pI (l:Int))) (hl:l<=n) (ht:eX P T E sz) (hp:Post G i (ax sz ag (n-l) λk=>f (l+k))):OpOk P ops ms c V A G i ⟨some d,.slice T x (some y) none none,ty,pos,au,none⟩:=
 bk rfl rfl rfl (.inl rfl) hp λL β a w hI hd=>by
  have k:=hr.spec hI hd
  obtain⟨A',cap,ex,h1,h2,_⟩:=k.out
  have ex:a.eval x=.slice A' n cap:=ex
  have ey:a.eval y=.int .i64 l:=(hy.spec hI hd).out
  rw[ex]at k
  refine⟨sliced A' l n cap sz,w,?_,Below.refl _ _,k.imp λw' kk=>kT hl (Nat.le_refl _) kk⟩
  show(do pure (Next.value (<-Instr.sliceAt T (a.eval x) (some (a.eval y)) none none))).run P w=_
  rw[ex,ey]
  have e1:(Instr.sliceBound (.int .i64 (l:Int)) n .sliceB).run P w=.ok l w:=by
   have:=run_sliceBound (P:=P) w .i64 (l:Int) n .sliceB (by omega) (by omega)
   simpa using this
  have hr:(Instr.sliceAt T (.slice A' n cap) (some (.int .i64 l)) none none).run P w=.ok (sliced A' l n cap sz) w:=by
   simp only[Instr.sliceAt,Sem.run_bind,run_underlying ht.under,Result.andThen_ok,Instr.slice,Instr.sliceBounds,Sem.run_pure]
   simp only[Option.isSome_none,Bool.false_eq_true,if_false,e1,Result.andThen_ok,ht.size w,sliced]
  rw[Sem.run_bind,hr]
  rfl
theorem FA (l h:Nat) (hr:Has ms G i x (fY s):=by exact hs) (hy:Has ms G i y (pI (l:Int)):=by exact(Wx.hs).imp (bV (by omega))) (hz:Has ms G i z (pI (h:Int)):=by exact(Wx.hs).imp (bV (by omega))) (hl:l<=h:=by omega) (hh:h<=s.size:=by omega) (ht:xU P T 1=true:=by kernel_rfl) (hp:Post G i (fY (s.extract l h)):=by exact pt rfl):OpOk P ops ms c V A G i ⟨some d,.slice T x (some y) (some z) none,ty,pos,au,none⟩:=by
 obtain⟨E,hE⟩:=gZ ht
 exact Ey l h hr hy hz hl hh hE (hp.down (vH (by rw[ByteArray.size_extract]; omega) λk hk w v e=>by rw[cD (by omega) hh]; exact e))
theorem bL (l:Nat) (hr:Has ms G i x (fY s):=by exact hs) (hy:Has ms G i y (pI (l:Int)):=by exact(Wx.hs).imp (bV (by omega))) (hl:l<=s.size:=by omega) (ht:xU P T 1=true:=by kernel_rfl) (hp:Post G i (fY (s.extract l s.size)):=by exact pt rfl):OpOk P ops ms c V A G i ⟨some d,.slice T x (some y) none none,ty,pos,au,none⟩:=by
 obtain⟨E,hE⟩:=gZ ht
 exact Ez l hr hy hl hE (hp.down (vH (by rw[ByteArray.size_extract]; omega) λk hk w v e=>by rw[cD (by omega) (Nat.le_refl _)]; exact e))
theorem bH (h:Nat) (hr:Has ms G i x (fY s):=by exact hs) (hy:Has ms G i y (pI (h:Int)):=by exact(Wx.hs).imp (bV (by omega))) (hh:h<=s.size:=by omega) (ht:xU P T 1=true:=by kernel_rfl) (hp:Post G i (fY (s.extract 0 h)):=by exact pt rfl):OpOk P ops ms c V A G i ⟨some d,.slice T x none (some y) none,ty,pos,au,none⟩:=by
 obtain⟨E,hE⟩:=gZ ht
 exact kK hr hy hE hh (hp.down (vH (by rw[ByteArray.size_extract]; omega) λk hk w v e=>by rw[cD (by omega) hh,Nat.zero_add]; exact e))
theorem C9 {S D:TypeId} (h:Has ms G i x (fY s):=by exact hs) (ht:BO P D S=true:=by kernel_rfl) (hp:Post G i (pT s):=by exact pt rfl):OpOk P ops ms c V A G i ⟨some d,.convert S D x,ty,pos,au,none⟩:=
 bk rfl rfl rfl (.inl rfl) hp λL β a w hI hd=>by
  obtain⟨A',cap,e,h1,h2,h3⟩:=(h.spec hI hd).out
  have e:a.eval x=.slice A' s.size cap:=e
  obtain⟨k1,E,k2,k3⟩:=pP ht
  refine⟨.string s,w,?_,Below.refl _ _,λ_ _=>rfl⟩
  show(do pure (Next.value (<-Go.convert S D (a.eval x)))).run P w=_
  rw[e]
  have hr:(Go.convert S D (.slice A' s.size cap)).run P w=.ok (.string s) w:=by
   cases A' with
   |none=>
    have h0:s.size=0:=by
     rcases Nat.eq_zero_or_pos s.size with h|h
     ·exact h
     ·obtain⟨b,o,he,_⟩:=h3 h
      cases he
    have es:s=.empty:=ByteArray.ext (Array.eq_empty_of_size_eq_zero h0)
    rw[Go.run_convert_bytes_string w S D E none s.size cap k2 k3 k1,es]
    unfold Conv.bytesToString
    rfl
   |some p=>
    have hl:s.data.toList.length=s.size:=Array.length_toList
    have:=Go.run_convert_bytes_back w S D E p cap s.data.toList k2 k3 k1 λj hj=>by
     have hj':j<s.size:=by omega
     obtain⟨b,o,he,hf⟩:=h3 (by omega)
     injection he with he
     subst he
     obtain⟨cs,c1,c2,c3⟩:=hf j hj'
     have c3:ah false cs=.int .u8 (bO s j):=c3
     match cs,c1,c2,c3 with
     |[u],_,c2,c3=>
      have c2:=c2 0 u rfl
      have c3:u=.int .u8 (bO s j):=c3
      rw[c3,ew hj']at c2
      rw[Addr.add_mid]
      rw[show o+j*1+0=o+j by omega]at c2
      exact c2
    rw[hl]at this
    exact this
  rw[Sem.run_bind,hr]
  rfl
end
end Wx
