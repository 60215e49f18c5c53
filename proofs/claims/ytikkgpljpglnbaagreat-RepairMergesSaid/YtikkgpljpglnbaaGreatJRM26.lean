import Derived.Test.YtikkgpljpglnbaaGreatJRM25
import Ieee.Arith
import GoSem.Core.Float
namespace Wx
open Go Go.RowKit
def MT:Value->Bool
 |.int .u64 _=>false
 |.int .u32 _=>false
 |_=>true
theorem BL {v:Value} (h:MT v=true):fq v:=by
 intro n
 refine⟨?_,?_⟩<;>intro e<;>rw[e]at h<;>cases h
def xN (P:Program) (T tx E:TypeId) (sz:Nat):Bool:=
 (match P.underlying T with|some (.slice E')=>E'==E|_=>false)&&(match P.underlying tx with|some (.slice _)=>true|_=>false) &&
 (match P.info? E with
  |some ti=>(ti.size==sz&&decide (ti.bytes<=4096))&&(match ti.zero with|some zv=>zv.cells.size==sz&&zv.cells.toList.all MT|none=>false)
  |none=>false)
theorem jA {P:Program} {T tx E:TypeId} {sz:Nat} (h:xN P T tx E sz=true):uS P T tx E sz:=by
 unfold xN at h
 simp only[Bool.and_eq_true]at h
 obtain⟨⟨h1,h2⟩,h3⟩:=h
 refine⟨?_,?_,?_⟩
 ·split at h1
  ·rename_i E' he
   rw[he,eq_of_beq h1]
  ·cases h1
 ·split at h2
  ·rename_i E' he
   exact⟨E',he⟩
  ·cases h2
 ·split at h3
  ·rename_i ti he
   simp only[Bool.and_eq_true]at h3
   obtain⟨⟨h4,h5⟩,h6⟩:=h3
   split at h6
   ·rename_i zv hz
    simp only[Bool.and_eq_true,List.all_eq_true]at h6
    exact⟨ti,zv,he,eq_of_beq h4,hz,eq_of_beq h6.1,λu hu=>BL (h6.2 u hu),of_decide_eq_true h5⟩
   ·cases h6
  ·cases h3
def uy:Pred:=λ_ v=>∃A,v=.slice A 0 0
section
variable {P:Program} {ops:Array Oper} {ms:List Nat} {c:cF} {V:List Vr} {A:List Al} {G:List aQ} {i:Nat} {L:Nat->Bool} {β:Nat->Nat->Prop} {a:Act} {w:World} {o:Oper}{d:Nat} {x y z:Operand} {ty:TypeId} {pos:String} {aI:Array Edge}{T E:TypeId} {sz n:Nat} {agg:Bool} {f:Nat->Pred}
theorem BS {T':TypeId} (h:Has ms G i x (bz sz agg n f)) (hn:0<n) (ht:P.underlying T=some (.slice E)) (hp:Post G i (pB false)):
  OpOk P ops ms c V A G i ⟨some d,.binOp .eql T x (.const (.slice none 0 0)) T',ty,pos,aI,none⟩:=
 bX rfl rfl rfl (.inl rfl) hp λL β a w hI hd=>⟨.bool false,w,by
  obtain⟨A',cap,e,_,_,k⟩:=(h.spec hI hd).out
  obtain⟨b,o,rfl,_⟩:=k hn
  show(do pure (Next.value (<-(do eqGuard .eql T x (.const (.slice none 0 0)) (a.eval x) (.slice none 0 0); Go.binOp .eql T (a.eval x) (.slice none 0 0))))).run P w=_
  rw[e]
  have hgd:eqGuard .eql T x (.const (.slice none 0 0)) (.slice (some ⟨b,o,none⟩) n cap) (.slice none 0 0)=pure ():=by unfold eqGuard; rfl
  have Jy:Go.binOp .eql T (.slice (some ⟨b,o,none⟩) n cap) (.slice none 0 0)=(do pure (.bool (<-Op.equal T (.slice (some ⟨b,o,none⟩) n cap) (.slice none 0 0)))):=rfl
  rw[hgd,Jy]
  have he:(Op.equal T (.slice (some ⟨b,o,none⟩) n cap) (.slice none 0 0)).run P w=.ok false w:=by
   show(Op.equalIn (9999+1) T _ _).run P w=_
   rw[Op.equalIn,Sem.run_bind,run_underlying ht]
   rfl
  simp only[pure_bind,Sem.run_bind,he,Result.andThen_ok,Sem.run_pure],Below.refl _ _,λ_ _=>rfl⟩
theorem ri (ht:lP P T E sz) (hp:Post G i uy):OpOk P ops ms c V A G i ⟨some d,.buildSlice T 0 #[],ty,pos,aI,none⟩:=
 bX rfl rfl rfl (.inl rfl) hp λL β a w hI hd=>by
  refine⟨.slice (some ⟨w.heap.size,0,none⟩) 0 0,w.alloc (.cells #[] E),?_,Below.alloc (Below.refl _ _) (Nat.le_refl _) _,λw' _=>⟨_,rfl⟩⟩
  show(do pure (Next.value (<-Instr.buildSlice T 0 ((#[]:Array (Nat×Operand)).map λ(i,x)=>(i,a.eval x))))).run P w=_
  have hu:(underlying T).run P w=.ok (.slice E) w:=run_underlying ht.under w
  have hrun:(Instr.buildSlice T 0 ((#[]:Array (Nat×Operand)).map λ(i,x)=>(i,a.eval x))).run P w=.ok (.slice (some ⟨w.heap.size,0,none⟩) 0 0) (w.alloc (.cells #[] E)):=by
   simp only[Instr.buildSlice,Sem.run_bind,hu,Result.andThen_ok,ht.size,Nat.zero_mul]
   rw[if_neg (by omega),if_pos trivial]
   have e:Array.map (λx=>(#[]:Array Value)[x%(#[]:Array Value).size]!) (Array.range 0)=#[]:=by simp
   have e2:(Array.map (λx:Nat×Operand=>(x.fst,a.eval x.snd)) #[]).toList=[]:=by simp
   simp only[pure_bind,e,e2,Instr.fill]
   rfl
  rw[Sem.run_bind,hrun]
  rfl
theorem rj {z:List Value} {zv:Value} {p:Pred} (ht:lP P T E sz) (yA:∀w,(zeroValue E).run P w=.ok zv w) (yz:zv.cells=z.toArray) (uQ:z.length=sz) (hsz:0<sz/\sz<=16777216) (h1:Has ms G i x p) (hf:Fits sz agg p) (hp:Post G i (bz sz agg 1 λ_=>p)):
  OpOk P ops ms c V A G i ⟨some d,.buildSlice T 1 #[(0,x)],ty,pos,aI,none⟩:=
 gY (fs:=[⟨agg,sz,lH⟩]) (ps:=[(0,p)]) (gs:=[⟨agg,sz,p⟩]) ht yA yz rfl (decide_eq_true ⟨hsz.1,Nat.one_pos,by omega⟩) (λ_=>trivial) uQ (show da ms G i [⟨agg,sz,lH⟩] [(0,x)] [(0,p)]from⟨⟨rfl,h1,_,rfl,hf⟩,trivial⟩) rfl (λ_=>p) (λk f h=>by cases k with
  |zero=>simp at h; rw[<-h]
  |succ k=>simp at h) hp
theorem ee:Fits 1 false (bz sz agg n f):=by
 rintro w v ⟨A,c,rfl,_⟩
 exact⟨[_],rfl,rfl,rfl,λu hu=>by simp at hu; subst hu; exact⟨eP _ _ _,rfl⟩⟩
theorem yN {tx:TypeId} {g:Nat->Pred} {yv:Vr} (k2:Nat) (hk2:V[k2]?=some yv) (hb:yv.born=some i) (iW:yv.kd=.grow n sz)
  (Hv:yv.T=E) (eB:(A.all λp=>p.var != yv.id||p.tag.any λj=>(ms.getD j 0).testBit i)=true)
  (h1:Has ms G i x uy) (h2:Has ms G i y (bz sz agg n g)) (ht:uS P T tx E sz) (hagg:agg=false->sz=1) (hg:∀i,i<n->Fits sz agg (g i)) (hn:0<n) (hmax:n<=1073741824)
  (hp:Post G i (bz sz agg n g)):
  OpOk P ops ms c V A G i ⟨some d,.call ⟨.builtin .append,#[x,y],#[T,tx]⟩,ty,pos,aI,none⟩:=by
 refine gK (λL β a w hI hd hwf=>?_) rfl
 have hy:=List.mem_of_getElem? hk2
 obtain⟨A1,Nr⟩:=(h1.spec hI hd).out
 obtain⟨A2,dB,news,Lt,KU,hc2,hnl,xG,hnc,hnf⟩:=mP hagg hg (h2.spec hI hd)
 obtain⟨E',MC⟩:=ht.src
 obtain⟨ti,zv,hi,hsz,hz,hzs,MJ,hby⟩:=ht.info
 subst hsz
 have hS:Src P ti.size tx (a.eval y) n news w:=by
  rw[Lt]
  exact ze MC hnl (λu hu=>(xG u hu).2) λh=>by
   obtain⟨b,o,e,hc⟩:=hnc h
   exact⟨b,o,e,λj u hj=>(hc j u hj).1⟩
 have hold:(Builtin.firstCells ti.size 0 (.slice A1 0 0)).run P w.drew=.ok ([]:List Value).toArray w.drew:=by
  cases A1 with
  |none=>exact run_firstCells_none w.drew ti.size 0 0 0
  |some p=>exact run_firstCells_some w.drew ti.size 0 p 0 0 [] (by simp) λj u hj=>by simp at hj
 have hrun:=run_append_grow_src (P:=P) w T tx ty E ti zv ht.under hi hz A1 0 0 ([]:List Value) hold (a.eval y) n news hS (by omega) (by omega) (growslice_fits (by omega) (by
   have:(0+n)*ti.bytes<=1073741824*4096:=Nat.mul_le_mul (by omega) hby
   omega))
 have hge:=grownCap_ge w (0+n) 0 E
 have hb0:Below w.heap.size w (w.drew.alloc (.cells (news++(Builtin.zeroCells zv.cells (grownCap w (0+n) 0 E-(0+n))).toList).toArray E)):=Below.alloc (Below.drew (Below.refl _ _)) (Nat.le_refl _) _
 refine de (v:=.slice (some ⟨w.heap.size,0,none⟩) (0+n) (grownCap w (0+n) 0 E)) (w':=w.drew.alloc (.cells (news++(Builtin.zeroCells zv.cells (grownCap w (0+n) 0 E-(0+n))).toList).toArray E)) ?_ ?_
 ·rw[Nr,hrun]
  congr 3
  apply Array.ext'
  simp
 ·refine hI.appended hd hwf (E:=E) (f:=λ_ _ _=>True) (g:=g) (agg:=agg) (olds:=[]) (m:=0) hy hb (by rw[Nat.zero_add]; exact iW) Hv rfl rfl eB (by simp) hnl (λi hi=>by omega) hnf (by simpa using hp) (heap_alloc_new w.drew _) ?_ hge (grownCap_le_maxLen w (0+n) 0 E (by unfold maxLen; omega)) ?_ ?_ (.inl hI.below.size) ⟨hb0.os,hb0.tape,hb0.output,hb0.size⟩ (λk hk _=>hb0.block k (Nat.lt_of_lt_of_le hk hI.below.size))
   (λz hz hl _ k hk=>⟨hb0.block k (eT hI hz hl hk),λe=>absurd e (Nat.ne_of_lt (eT hI hz hl hk))⟩) (Ext.bH hb0) (λz hz hl _=>Ext.bH hb0) (λj hj=>absurd hj (Nat.lt_irrefl _))
  ·rw[List.length_append,hnl,Array.length_toList,size_zeroCells,hzs,<-Nat.add_mul]
   congr 1; omega
  ·intro u hu
   rcases List.mem_append.1 hu with hu|hu
   ·exact(xG u hu).1
   ·exact dI MJ _ u hu
  ·rw[List.nil_append,Nat.zero_add,<-hnl,List.take_left]
theorem yf {id s n0:Nat} {w0:World} {N:Nat} {M:Nat->Nat->Prop} {m':Nat} {ag:Bool} {p0:Rel} {st:List (Nat×Rel)} (hI:aT ⟨N,w0,M,λ_=>False⟩ V [] G none_ β a w) (hk:V[n0]?=some ⟨id,s,none,none,.grow n sz,T,m',ag,p0,st⟩) (hn:0<n) {k:Nat} (hg:G[k]?=some ⟨none,none,s,bz sz agg n f⟩):
  ∃(b cap:Nat) (cur:List Value),sl a s=.slice (some ⟨b,0,none⟩) n cap/\w0.heap.size<=b/\w.heap[b]?=some (.cells cur.toArray T (0,0))/\cur.length=cap*sz/\n<=cap/\cap<=maxLen/\(∀v∈cur,fq v)/\∀i,i<n->f i w (aq agg ((cur.drop (i*sz)).take sz)):=by
 have hx:=List.mem_of_getElem? hk
 rcases (bh (m:=n) (sz:=sz) rfl).1 (hI.var _ hx rfl)with⟨_,h0,_⟩|⟨b,cap,cur,hB,wg,fI,hblk,mc,Ms,hcm,vX⟩
 ·omega
 ·refine⟨b,cap,cur,wg,fI.elim (λh=>h) (λh=>h.elim),hblk,mc,Ms,hcm,vX,λi hi=>?_⟩
  obtain⟨A',cap',e,_,_,hel⟩:=(hI.gD _ (List.mem_of_getElem? hg) rfl rfl).out
  have e:sl a s=.slice A' n cap':=e
  rw[wg]at e
  injection e with eA _ _
  obtain⟨b',o',eb,hel⟩:=hel hn
  rw[<-eA]at eb
  injection eb with eb
  injection eb with e1 e2
  subst e1 e2
  obtain⟨cs,hl,hc,hf⟩:=hel i hi
  have hle:(i+1)*sz<=cap*sz:=Nat.mul_le_mul_right _ (by omega)
  rw[Nat.add_mul,Nat.one_mul]at hle
  have:(cur.drop (i*sz)).take sz=cs:=by
   refine iO (w:=w) (b:=b) (o:=i*sz) (by rw[List.length_take,List.length_drop,hl,mc]; omega) (λj u hj=>?_) (λj u hj=>by have:=hc j u hj; rwa [Nat.zero_add]at this)
   rw[List.getElem?_take]at hj
   split at hj
   ·rw[List.getElem?_drop]at hj
    simp only[World.cell?,hblk]
    simpa using hj
   ·cases hj
  rw[this]
  exact hf
variable {fn:Func}
theorem tV {f:FuncId} {C0:Code} {vs:List Value} {M:Nat->Nat->Prop} {R:World->Ending->World->Prop} {N:Nat} (hf:P.funcs[f]?=some fn) (hb:fn.body=some C0) (hN:fn.ntmps=N) (hlen:decide (vs.length<=N)=true) (hM:cQ M w) (hG:dO M w vs G)
  (h:∀a,Inv ⟨N,w,M,λ_=>False⟩ [] [] G none_ a w->C0.wp P (bodyPost P fn (R w)) a w):Calls P f vs.toArray w (R w):=
 calls_of_wp hf hb (h _ (nE hM (by have:=of_decide_eq_true hlen; simp[hN]; omega) rfl hG.ok))
end
end Wx

namespace Wx
open Go Go.RowKit
section
variable {P:Program} {ops:Array Oper} {ms:List Nat} {c:cF} {V:List Vr} {A:List Al} {G:List aQ} {i:Nat}{d:Nat} {x y z:Operand} {ty:TypeId} {pos:String} {aI:Array Edge}{T:TypeId} {n:Nat} {p:Pred}
theorem Gn {ag:Bool} (hnb:(V.all λx=>x.born != some i&&x.dead != some i)=true) (h:Has ms G i x p) (hf:Fits n ag p) (hp:Post G i (cZ n ag p)):
  OpOk P ops ms c V A G i ⟨some d,.box T x,ty,pos,aI,none⟩:=
 pE rfl (λ_=>yH hnb) rfl (.inl rfl) hp λL β a w hI hd=>by
  have hq:=h.spec hI hd
  obtain⟨cs,e,hl,hcells,h1⟩:=hf w _ hq.out
  have hb:Below w.heap.size w (w.alloc (.cells cs.toArray T)):=Below.alloc (Below.refl _ _) (Nat.le_refl _) _
  refine⟨.pointer (some ⟨w.heap.size,0,none⟩),w.alloc (.cells cs.toArray T),?_,hb,λw' he=>?_⟩
  ·show(do pure (Next.value (<-Instr.box T (a.eval x)))).run P w=_
   simp only[Instr.box,newVar,newRow,hcells]
   rfl
  ·have hgt:w'.heap[w.heap.size]?=some (.cells cs.toArray T (0,0)):=by
    rw[he.block w.heap.size (by simp) (λo h=>by have:=ux hI h; omega)]
    exact heap_alloc_new _ _
   have k:=hq w' ((Ext.bH hb).trans he)
   rw[e]at k
   refine⟨w.heap.size,0,cs,rfl,hl,λj u hj=>?_,k⟩
   simp only[World.cell?,hgt,Nat.zero_add]
   simpa using hj
theorem vh (n:Nat) (ag:Bool) (h:Has ms G i x p:=by exact hs) (hf:Fits n ag p:=by exact qx) (hp:Post G i (cZ n ag p):=by exact pt rfl) (hnb:(V.all λx=>x.born != some i&&x.dead != some i)=true:=by kernel_rfl):
  OpOk P ops ms c V A G i ⟨some d,.box T x,ty,pos,aI,none⟩:=Gn hnb h hf hp
variable {sz b o:Nat}
theorem uH {P:Program} (h:KF P T n sz=true) (w:World):(Instr.sliceAt T (.pointer (some ⟨b,o,none⟩)) none none none).run P w=.ok (.slice (some ⟨b,o,none⟩) n n) w:=by
 unfold KF at h
 split at h
 ·rename_i m E hE
  rw[Bool.and_eq_true]at h
  have e:=Nat.eq_of_beq_eq_true h.1
  subst e
  have hu:(underlying T).run P w=.ok (.array m E) w:=run_underlying hE w
  have hz:(Go.sizeOf E).run P w=.ok sz w:=pJ h.2 w
  simp only[Instr.sliceAt,Sem.run_bind,hu,Result.andThen_ok,Instr.sureAddr,Instr.sliceBounds,pure_bind,Sem.run_pure,hz,Nat.sub_zero]
  by_cases hm:m=0
  ·rw[if_pos hm]
  ·rw[if_neg hm,Nat.zero_mul]; rfl
 ·cases h
theorem rG {M:Nat->Nat->Prop} {w w':World} {off:Nat} {q:Pred} {v:Value} (he:Ext M w w') (h:aL M (λw=>cZ sz true p w v) w) (e:v=.pointer (some ⟨b,o,none⟩)) (hq:∀w cs,cs.length=sz->p w (aq true cs)->q w (aq true ((cs.drop off).take n))) (hle:off+n<=sz):cZ n true q w' (.pointer (some ⟨b,o+off,none⟩)):=by
 obtain⟨b',o',cs,e',hl,hc,hp'⟩:=h w' he
 rw[e]at e'
 cases e'
 refine⟨b,o+off,(cs.drop off).take n,rfl,by rw[List.length_take,List.length_drop]; omega,λj u hj=>?_,hq w' cs hl hp'⟩
 rw[List.getElem?_take]at hj
 split at hj
 ·rw[List.getElem?_drop]at hj
  have:=hc _ _ hj
  rwa [Nat.add_assoc]
 ·cases hj
theorem xg {agg:Bool} {f g:Nat->Pred} (h:∀k,k<n->∀w v,f k w v->g k w v):∀w v,bz sz agg n f w v->bz sz agg n g w v:=λ_ _ ⟨A,cap,e,h1,h2,h3⟩=>⟨A,cap,e,h1,h2,λh0=>(h3 h0).elim λb h4=>h4.elim λo h5=>⟨b,o,h5.1,λi hi=>(h5.2 i hi).elim λcs h6=>⟨cs,h6.1,h6.2.1,h i hi _ _ h6.2.2⟩⟩⟩
theorem ye {f:FuncId} {x y:Operand} {ts:Array TypeId} {p1 p2 q1 q2:Pred} {φ ψ:Prop} (hψ:ψ) (gB:φ->∀M w v1 v2,cQ M w->aL M (λw=>p1 w v1) w->aL M (λw=>p2 w v2) w->Calls P f #[v1,v2] w (bV M p w)) (h1:Has ms G i x q1:=by exact hg) (c1:∀w v,q1 w v->p1 w v:=by exact qj) (h2:Has ms G i y q2:=by exact hg) (c2:∀w v,q2 w v->p2 w v:=by exact qj) (hp:Post G i p:=by exact pg (by assumption) rfl) (hφ:φ:=by first|omega|trivial) (hf:aJ P f:=by exactλ_ _=>by kernel_rfl):
  OpOk P ops ms c V A G i ⟨some d,.call ⟨.value (.func f),#[x,y],ts⟩,ty,pos,aI,none⟩:=(λ_:ψ=>tw hf (h1.imp c1) (h2.imp c2) hp (gB hφ)) hψ
end
end Wx

namespace Wx
open Go Go.RowKit
section
variable {P:Program} {ops:Array Oper} {ms:List Nat} {c:cF} {V:List Vr} {A:List Al} {G:List aQ} {i:Nat}{d:Nat} {x y:Operand} {ty:TypeId} {pos:String} {aI:Array Edge}
end
end Wx

namespace Wx
open Ieee
end Wx

namespace Wx
open Ieee
end Wx

namespace Wx
open Go Go.RowKit
section
variable {P:Program} {ops:Array Oper} {ms:List Nat} {c:cF} {V:List Vr} {A:List Al} {G:List aQ} {i:Nat}{d:Nat} {x y:Operand} {ty:TypeId} {pos:String} {aI:Array Edge}{n:Int}
theorem J4 {xt:TypeId} (h:Has ms G i x (pI n)) (hn:-9223372036854775807<=n/\n<=9223372036854775807) (hp:Post G i (pI (-n))):OpOk P ops ms c V A G i ⟨some d,.unOp .neg xt x,ty,pos,aI,none⟩:=
 jd rfl rfl rfl rfl h hp λρ w h=>⟨.int .i64 (-n),by
  have h:ρ x=.int .i64 n:=h
  show(do pure (Next.value (<-Op.unary .neg (ρ x)))).run P w=_
  rw[h]
  show Result.ok (Next.value (.int .i64 (IntKind.i64.wrap (0-n)))) w=_
  rw[IntWalk.i64_in (0-n) (by omega)]
  congr 3
  omega,λ_ _=>rfl⟩
def iZ (m n:Int):Int:=if n>m then n else m
theorem Gq {ts:Array TypeId} {m:Int} (h1:Has ms G i x (pI m)) (h2:Has ms G i y (pI n)) (hp:Post G i (pI (iZ m n))):OpOk P ops ms c V A G i ⟨some d,.call ⟨.builtin .max,#[x,y],ts⟩,ty,pos,aI,none⟩:=
 je rfl rfl rfl rfl h1 h2 hp λρ w h1 h2=>⟨.int .i64 (iZ m n),by
  have h1:ρ x=.int .i64 m:=h1
  have h2:ρ y=.int .i64 n:=h2
  show(do let d <-resolve ρ ⟨.builtin .max,#[x,y],ts⟩ ty; invoke d.target d.args).run P w=_
  simp only[resolve,invoke,pure_bind,builtin]
  rw[show(#[x,y]:Array Operand).map ρ=#[ρ x,ρ y] by simp,h1,h2]
  rfl,λ_ _ _=>rfl⟩
end
end Wx

namespace Wx
open Go Go.RowKit
section
variable {P:Program} {ops:Array Oper} {ms:List Nat} {c:cF} {V:List Vr} {A:List Al} {G:List aQ} {i:Nat}{d:Nat} {x y z:Operand} {ty:TypeId} {pos:String} {aI:Array Edge}
theorem ng {xt:TypeId} {n:Int} (h:Has ms G i x (pI n):=by exact hs) (hp:Post G i (pI (-n)):=by exact pt rfl) (hn:-9223372036854775807<=n/\n<=9223372036854775807:=by omega):OpOk P ops ms c V A G i ⟨some d,.unOp .neg xt x,ty,pos,aI,none⟩:=J4 h hn hp
variable {f:FuncId} {sz:Nat} {ag:Bool} {q:Pred}
theorem RN (h:Has ms G i x (cZ sz ag q):=by exact hs) (hp:Post G i (BW f sz ag q):=by exact pt rfl):OpOk P ops ms c V A G i ⟨some d,.makeFunc (.func f) #[] #[x],ty,pos,aI,none⟩:=
 jd rfl rfl rfl rfl h hp λρ w _=>⟨.func (.func f) #[] #[ρ x],by
  show(do pure (Next.value (<-Instr.makeFunc (.func f) ((#[]:Array Operand).map ρ) ((#[x]:Array Operand).map ρ)))).run P w=_
  rw[show(#[x]:Array Operand).map ρ=#[ρ x] by simp,show(#[]:Array Operand).map ρ=#[] by simp]
  rfl,λ_ h=>⟨ρ x,rfl,h⟩⟩
variable {ts:Array TypeId} {p p1 q1:Pred}
theorem Sq {fx:Operand} (hf:aJ P f) (gB:∀(M:Nat->Nat->Prop) (w:World) (v1 v2:Value),cQ M w->aL M (λw=>p1 w v1) w->aL M (λw=>cZ sz ag q w v2) w->Calls P f #[v1,v2] w (bV M p w)) (hx:Has ms G i fx (BW f sz ag q):=by exact hs) (h1:Has ms G i x q1:=by exact hs) (c1:∀w v,q1 w v->p1 w v:=by exact qj) (hp:Post G i p:=by exact pt rfl):OpOk P ops ms c V A G i ⟨some d,.call ⟨.value fx,#[x],ts⟩,ty,pos,aI,none⟩:=
 BR hf hx (h1.imp c1) hp gB
variable {φ:Prop}
theorem QY (gB:φ->∀M w,cQ M w->Calls P f #[] w (bV M p w)) (hp:Post G i p:=by exact pt rfl) (hφ:φ:=by first|omega|trivial) (hf:aJ P f:=by exactλ_ _=>by kernel_rfl):
  OpOk P ops ms c V A G i ⟨some d,.call ⟨.value (.func f),#[],ts⟩,ty,pos,aI,none⟩:=jc hf hp λL β a w hI hd=>(by
  rw[show(#[]:Array Operand).map a.eval=#[] by simp]
  exact gB hφ _ w (aS hI) )
variable {x1 x2 x3:Operand} {p2 p3 q2 q3:Pred}
theorem Ln (gB:φ->∀M w v1 v2 v3,cQ M w->aL M (λw=>p1 w v1) w->aL M (λw=>p2 w v2) w->aL M (λw=>p3 w v3) w->Calls P f #[v1,v2,v3] w (bV M p w)) (h1:Has ms G i x1 q1:=by exact hs) (c1:∀w v,q1 w v->p1 w v:=by exact qj) (h2:Has ms G i x2 q2:=by exact hs) (c2:∀w v,q2 w v->p2 w v:=by exact qj) (h3:Has ms G i x3 q3:=by exact hs) (c3:∀w v,q3 w v->p3 w v:=by exact qj) (hp:Post G i p:=by exact pt rfl) (hφ:φ:=by first|omega|trivial) (hf:aJ P f:=by exactλ_ _=>by kernel_rfl):
  OpOk P ops ms c V A G i ⟨some d,.call ⟨.value (.func f),#[x1,x2,x3],ts⟩,ty,pos,aI,none⟩:=jc hf hp λL β a w hI hd=>(by
  rw[show(#[x1,x2,x3]:Array Operand).map a.eval=#[a.eval x1,a.eval x2,a.eval x3] by simp]
  exact gB hφ _ w _ _ _ (aS hI) ((h1.imp c1).spec hI hd) ((h2.imp c2).spec hI hd) ((h3.imp c3).spec hI hd))
variable {ψ:Prop}
theorem OC (hψ:ψ) (gB:φ->∀M w,cQ M w->Calls P f #[] w (bV M p w)) (hp:Post G i p:=by exact pg (by assumption) rfl) (hφ:φ:=by first|omega|trivial) (hf:aJ P f:=by exactλ_ _=>by kernel_rfl):
  OpOk P ops ms c V A G i ⟨some d,.call ⟨.value (.func f),#[],ts⟩,ty,pos,aI,none⟩:=(λ_:ψ=>QY gB hp hφ hf) hψ
theorem OD (hψ:ψ) (gB:φ->∀M w v1,cQ M w->aL M (λw=>p1 w v1) w->Calls P f #[v1] w (bV M p w)) (h1:Has ms G i x1 q1:=by exact hg) (c1:∀w v,q1 w v->p1 w v:=by exact qj) (hp:Post G i p:=by exact pg (by assumption) rfl) (hφ:φ:=by first|omega|trivial) (hf:aJ P f:=by exactλ_ _=>by kernel_rfl):
  OpOk P ops ms c V A G i ⟨some d,.call ⟨.value (.func f),#[x1],ts⟩,ty,pos,aI,none⟩:=(λ_:ψ=>uN gB h1 c1 hp hφ hf) hψ
theorem Jt (hψ:ψ) (gB:φ->∀M w v1 v2 v3,cQ M w->aL M (λw=>p1 w v1) w->aL M (λw=>p2 w v2) w->aL M (λw=>p3 w v3) w->Calls P f #[v1,v2,v3] w (bV M p w)) (h1:Has ms G i x1 q1:=by exact hg) (c1:∀w v,q1 w v->p1 w v:=by exact qj) (h2:Has ms G i x2 q2:=by exact hg) (c2:∀w v,q2 w v->p2 w v:=by exact qj) (h3:Has ms G i x3 q3:=by exact hg) (c3:∀w v,q3 w v->p3 w v:=by exact qj) (hp:Post G i p:=by exact pg (by assumption) rfl) (hφ:φ:=by first|omega|trivial) (hf:aJ P f:=by exactλ_ _=>by kernel_rfl):
  OpOk P ops ms c V A G i ⟨some d,.call ⟨.value (.func f),#[x1,x2,x3],ts⟩,ty,pos,aI,none⟩:=(λ_:ψ=>Ln gB h1 c1 h2 c2 h3 c3 hp hφ hf) hψ
end
end Wx
