import Derived.Test.YtadigiledciihaaGreatJRA18
namespace Wx
open Go Go.RowKit
def Qk (P:Program) (E:TypeId) (n:Nat):Bool:=match P.info? E with
 |some i=>Nat.beq i.size n
 |none=>false
variable {P:Program} {n:Nat}
theorem rH {E:TypeId} (h:Qk P E n=true) (w:World):(Go.sizeOf E).run P w=.ok n w:=by
 unfold Qk at h
 split at h
 ·rename_i i hi
  have:=Nat.eq_of_beq_eq_true h
  subst this
  simp[Go.sizeOf,typeInfo,hi]
 ·cases h
def IX (P:Program) (T:TypeId) (ag:Bool) (n:Nat):Bool:=Qk P T n&&((ag||Nat.beq n 1)&&match P.underlying T with
 |some (.struct _)|some (.array _ _)=>ag
 |some _=>!ag
 |none=>false)
variable {T:TypeId} {ag:Bool}
theorem cV (h:IX P T ag n=true):Ty P T ag n:=by
 unfold IX at h
 rw[Bool.and_eq_true,Bool.and_eq_true]at h
 obtain⟨h1,h2,h3⟩:=h
 refine⟨λw=>?_,rH h1,λe=>?_⟩
 ·cases hu:P.underlying T with
  |none=>rw[hu]at h3; cases h3
  |some u=>
   rw[hu]at h3
   have hr:=run_underlying hu w
   simp only[isAgg,Sem.run_bind,hr,Result.andThen_ok]
   cases u<;>simp at h3<;>subst h3<;>rfl
 ·subst e; rw[Bool.false_or]at h2; exact Nat.eq_of_beq_eq_true h2
class xQ (P:Program) (T:TypeId) (ag:outParam Bool) (n:outParam Nat):Prop where
 ok:Ty P T ag n
def NB (P:Program) (T:TypeId) (sz:Nat):Bool:=match P.underlying T with
 |some (.slice E)=>Qk P E sz
 |_=>false
variable {sz:Nat}
theorem xF (h:NB P T sz=true):∃E,pP P T E sz:=by
 unfold NB at h
 split at h
 ·rename_i E hE; exact⟨E,hE,rH h⟩
 ·cases h
def JK (P:Program) (T:TypeId):Bool:=match P.underlying T with
 |some (.slice _)=>true
 |_=>false
theorem CL (h:JK P T=true):∃E,P.underlying T=some (.slice E):=by
 unfold JK at h
 split at h
 ·rename_i E hE; exact⟨E,hE⟩
 ·cases h
def NJ (P:Program) (T:TypeId) (len sz:Nat):Bool:=match P.underlying T with
 |some (.array n E)=>Nat.beq n len&&Qk P E sz
 |_=>false
theorem xB {len:Nat} (h:NJ P T len sz=true) {b off:Nat} {m:Int} (h0:0<=m) (h1:m<len) (w:World):(Instr.indexAt T (.pointer (some ⟨b,off,none⟩)) (.int .i64 m)).run P w=.ok (.pointer (some ⟨b,off+m.toNat*sz,none⟩)) w:=by
 unfold NJ at h
 split at h
 ·rename_i n E hE
  rw[Bool.and_eq_true]at h
  have e:=Nat.eq_of_beq_eq_true h.1
  subst e
  have hu:(underlying T).run P w=.ok (.array n E) w:=run_underlying hE w
  simp only[Instr.indexAt,asIntOf,pure_bind,Sem.run_bind,hu,Result.andThen_ok,Instr.sureAddr]
  rw[if_pos ⟨h0,h1⟩]
  simp only[Sem.run_bind,rH h.2,Result.andThen_ok,Sem.run_pure,Addr.add_mid]
 ·cases h
variable {p:Pred}
theorem ur (h:Fits n ag p:=by
 first
 |exact oz
 |exact wK
 |exact fits_int _
 |exact fits_bool _
 |exact lW _
 |exact lX _
 |exact sD _ _ _
 |exact lY
 |exact yN _
 |exact ru (λ_=>oz) (by first|rfl|omega|(simp; omega))
 |exact ru (λ_=>wK) (by first|rfl|omega|(simp; omega))
 |exact pZ (by repeat' (first|exact trivial|exact oz|exact wK|exact fits_int _|exact fits_bool _|exact sD _ _ _|exact lY|exact yN _|refine⟨?_,?_⟩)) rfl):Fits n ag p:=h
theorem Bw (h:aC p:=by
 first
 |exact nR
 |exact nQ
 |exact cF _
 |exact td λ_=>nR
 |exact td λ_=>nQ
 |exact dS _
 |exact dU _
 |exact iy nR (cF _)
 |exact iy nQ (cF _)
 |exact iy (dS _) (cF _)
 |exact iy (dU _) (cF _)):aC p:=h
variable {q:Pred}
theorem nh (h:∀w v,p w v->q w v:=by
 first
 |exactλ_ _ h=>h
 |exact zL (by omega)
 |exact Da (by omega)
 |exact pH.pV (by repeat' (first|exact pH.z|refine pH.c (by omega) ?_))
 |exactλ_ _ h=>h
 |exactλ_ _ h=>h.2):∀w v,p w v->q w v:=h
variable {i:Nat}
theorem Has.Tx {ms:List Nat} {G:List bg} {x:Operand} {φ ψ:Prop} (h:Has ms G i x (qj (φ/\ψ) q)) (hφ:φ):Has ms G i x (qj ψ q):=
 h.imp λ_ _ k=>⟨λhψ=>k.1 ⟨hφ,hψ⟩,λhψ=>k.2 λhh=>hψ hh.2⟩
theorem T1 {A:List Al} {al:Al} (h:I5 i A=some al) (hn:¬al.cond) (hu:(A.filter λq=>q.tag==some i).length=1):uh A i:=by
 obtain⟨⟨k,hk⟩,ht⟩:=oc h
 exact .at_ k hk ht hu hn
def tm:Nat->Nat->List Nat
 |0,_=>[]
 |n+1,k=>k::tm n (2*k+1)
section
variable {P:Program} {ops:Array Oper} {ms:List Nat} {c:dM} {V:List Vr} {A:List Al} {G:List bg} {i:Nat}{d:Nat} {x y z:Operand} {ty:TypeId} {pos:String} {aR:Array Edge}{T:TypeId} {sz n:Nat} {agg:Bool} {f:Nat->Pred}
theorem Lk (h:Has ms G i x (cK sz agg n f)) (hp:Post G i (pI (n:Int))) (ht:JK P T=true):
  OpOk P ops ms c V A G i ⟨some d,.call ⟨.builtin .len,#[x],#[T]⟩,ty,pos,aR,none⟩:=(CL ht).elim λ_ hE=>Nf h hE hp
theorem kO {m:Int} (k:Nat) (h:Has ms G i x (cK sz agg n f)) (hy:Has ms G i y (pI m)) (hm:m=(k:Int)) (hp:Post G i (eH sz agg (f k))) (hk:k<n) (ht:NB P T sz=true) (hA:(A.all λq=>q.tag != some i)=true):
  OpOk P ops ms c V A G i ⟨some d,.indexAddr T x y,ty,pos,aR,none⟩:=by
 obtain⟨E,hE⟩:=xF ht
 subst hm
 exact zK h hy hE (by omega) (by omega) hA (by rw[Int.toNat_natCast]; exact hp)
theorem rC {p:Pred} (h:Has ms G i x (eH sz agg p)) (hp:Post G i p) (ht:IX P T agg sz=true) (hfit:Fits sz agg p):OpOk P ops ms c V A G i ⟨some d,.load T x,ty,pos,aR,none⟩:=
 Hf h (cV ht) hfit hp
variable {cb b2:Bool}
theorem Lg (h:Has ms G i x (pB cb)) (hy:Has ms G i y (qj (cb=true) (pB b2))) (hz:Has ms G i z (pB false)) (hp:Post G i (pB (cb&&b2))):OpOk P ops ms c V A G i ⟨some d,.pick x y z,ty,pos,aR,none⟩:=
 C4 h (λe=>(hy.NV e).imp λ_ _ k=>by rw[e]; exact k) (λe=>hz.imp λ_ _ k=>by rw[e]; exact k) hp
theorem Qa (h:Has ms G i x (pB cb)) (hy:Has ms G i y (pB true)) (hz:Has ms G i z (qj (cb=false) (pB b2))) (hp:Post G i (pB (cb||b2))):OpOk P ops ms c V A G i ⟨some d,.pick x y z,ty,pos,aR,none⟩:=
 C4 h (λe=>hy.imp λ_ _ k=>by rw[e]; exact k) (λe=>(hz.NV e).imp λ_ _ k=>by rw[e]; exact k) hp
end
end Wx

namespace Wx
open Go Go.RowKit
section
variable {P:Program} {ops:Array Oper} {ms:List Nat} {c:dM} {V:List Vr} {A:List Al} {G:List bg} {i:Nat}{d:Nat} {x y z:Operand} {ty:TypeId} {pos:String} {aR:Array Edge}{p:Pred}
theorem hs (h:Has ms G i x p:=by
 first
 |exact look rfl
 |exact .const _
 |exact .func _):Has ms G i x p:=h
theorem hg (h:Has ms G i x p:=by
 first
 |exact .const _
 |exact .func _
 |exact Has.NV (look rfl) (by assumption)
 |exact Has.NV (look rfl) (And.left (by assumption))
 |exact Has.Tx (look rfl) (by assumption)
 |exact look rfl):Has ms G i x p:=h
variable {φ:Prop}
theorem pg (hc:φ) (h:lu i G=some (qj φ p)):Post G i p:=W8 hc h
variable {o:Oper}
theorem mv (h:OpOk P ops ms c V A G i o:=by
 first
 |exact bD hs (pt rfl)
 |exact dm hs (pt rfl)):OpOk P ops ms c V A G i o:=h
theorem fQ (hc:φ) {o:Oper} (h:φ->OpOk P ops ms c V A G i o:=by
 intro hc
 first
 |exact bD hg (pg hc rfl)
 |exact dm hg (pg hc rfl)):OpOk P ops ms c V A G i o:=h hc
theorem ld (h:OpOk P ops ms c V A G i o:=by
 first
 |exact o_load rfl rfl rfl rfl (pt rfl) (cV (by kernel_rfl))
 |exact tg rfl rfl rfl rfl (by kernel_rfl) rfl xQ.ok (zo rfl) trivial (pt rfl) rfl
 |exact rC hs (pt rfl) (by kernel_rfl) ur):OpOk P ops ms c V A G i o:=h
theorem dw (hc:φ) {o:Oper} (h:φ->OpOk P ops ms c V A G i o:=by
 intro hc
 first
 |exact o_load rfl rfl rfl rfl (pg hc rfl) (cV (by kernel_rfl))
 |exact tg rfl rfl rfl rfl (by kernel_rfl) rfl xQ.ok (zo rfl) (by first|exact trivial|exact hc) (pg hc rfl) rfl
 |exact rC hg (pg hc rfl) (by kernel_rfl) ur):OpOk P ops ms c V A G i o:=h hc
theorem bn (h:OpOk P ops ms c V A G i o:=by
 first
 |exact Lm hs hs (pt rfl)
 |exact Ll hs hs (pt rfl)
 |exact Lj hs hs (pt rfl)
 |exact Li hs hs (pt rfl)
 |exact Lh hs hs (pt rfl)
 |exact Lo hs hs (pt rfl)
 |exact Lf hs hs (pt rfl)
 |exact Lq hs hs (pt rfl)
 |exact Ln hs hs (pt rfl)):OpOk P ops ms c V A G i o:=h
theorem lB (hc:φ) {o:Oper} (h:φ->OpOk P ops ms c V A G i o:=by
 intro hc
 first
 |exact Lm hg hg (pg hc rfl)
 |exact Ll hg hg (pg hc rfl)
 |exact Lj hg hg (pg hc rfl)
 |exact Li hg hg (pg hc rfl)
 |exact Lh hg hg (pg hc rfl)
 |exact Lo hg hg (pg hc rfl)
 |exact Lf hg hg (pg hc rfl)
 |exact Lq hg hg (pg hc rfl)
 |exact Ln hg hg (pg hc rfl)):OpOk P ops ms c V A G i o:=h hc
theorem nt (h:OpOk P ops ms c V A G i o:=by
 first
 |exact Hh hs (pt rfl)):OpOk P ops ms c V A G i o:=h
theorem T5 (hc:φ) {o:Oper} (h:φ->OpOk P ops ms c V A G i o:=by
 intro hc
 first
 |exact Hh hg (pg hc rfl)):OpOk P ops ms c V A G i o:=h hc
theorem ln (h:OpOk P ops ms c V A G i o:=by
 first
 |exact Lk hs (pt rfl) (by kernel_rfl)):OpOk P ops ms c V A G i o:=h
theorem RK (hc:φ) {o:Oper} (h:φ->OpOk P ops ms c V A G i o:=by
 intro hc
 first
 |exact Lk hg (pg hc rfl) (by kernel_rfl)):OpOk P ops ms c V A G i o:=h hc
theorem fa (h:OpOk P ops ms c V A G i o:=by
 first
 |exact CT rfl rfl rfl rfl rfl (λ_ _=>by kernel_rfl) rfl (by kernel_rfl) (by kernel_rfl)
 |exact vE rfl rfl rfl rfl rfl rfl (λ_ _=>by kernel_rfl) rfl trivial (by kernel_rfl) (by kernel_rfl)
 |exact CU rfl rfl rfl rfl rfl hs (λ_ _=>by kernel_rfl) rfl (by kernel_rfl) (by kernel_rfl)
 |exact vF rfl rfl rfl rfl rfl rfl hs (λ_ _=>by kernel_rfl) rfl trivial (by kernel_rfl) (by kernel_rfl)):OpOk P ops ms c V A G i o:=h
theorem uu (hc:φ) {o:Oper} (h:φ->OpOk P ops ms c V A G i o:=by
 intro hc
 first
 |exact CT rfl rfl rfl rfl rfl (λ_ _=>by kernel_rfl) rfl (by kernel_rfl) (by kernel_rfl)
 |exact vE rfl rfl rfl rfl rfl rfl (λ_ _=>by kernel_rfl) rfl (by first|exact trivial|exact hc) (by kernel_rfl) (by kernel_rfl)
 |exact CU rfl rfl rfl rfl rfl hg (λ_ _=>by kernel_rfl) rfl (by kernel_rfl) (by kernel_rfl)
 |exact vF rfl rfl rfl rfl rfl rfl hg (λ_ _=>by kernel_rfl) rfl (by first|exact trivial|exact hc) (by kernel_rfl) (by kernel_rfl)):OpOk P ops ms c V A G i o:=h hc
theorem ix (h:OpOk P ops ms c V A G i o:=by
 first
 |exact kO _ hs hs rfl (pt rfl) (by omega) (by kernel_rfl) (by kernel_rfl)
 |exact kO _ hs hs (Int.toNat_of_nonneg (by omega)).symm (pt rfl) (by omega) (by kernel_rfl) (by kernel_rfl)):OpOk P ops ms c V A G i o:=h
theorem yQ (hc:φ) {o:Oper} (h:φ->OpOk P ops ms c V A G i o:=by
 intro hc
 first
 |exact kO _ hg hg rfl (pg hc rfl) (by omega) (by kernel_rfl) (by kernel_rfl)
 |exact kO _ hg hg (Int.toNat_of_nonneg (by omega)).symm (pg hc rfl) (by omega) (by kernel_rfl) (by kernel_rfl)):OpOk P ops ms c V A G i o:=h hc
theorem ext (h:OpOk P ops ms c V A G i o:=by
 first
 |exact iT hs OC (pt rfl)
 |exact iT hs OD (pt rfl)
 |exact iT hs OE (pt rfl)
 |exact iT hs OG (pt rfl)
 |exact iT hs OH (pt rfl)):OpOk P ops ms c V A G i o:=h
theorem pk (h:OpOk P ops ms c V A G i o:=by
 first
 |exact Lg hs hs hs (pt rfl)
 |exact Qa hs hs hs (pt rfl)):OpOk P ops ms c V A G i o:=h
theorem NN (hc:φ) {o:Oper} (h:φ->OpOk P ops ms c V A G i o:=by
 intro hc
 first
 |exact Lg hg hg hg (pg hc rfl)
 |exact Qa hg hg hg (pg hc rfl)):OpOk P ops ms c V A G i o:=h hc
theorem ju (h:OpOk P ops ms c V A G i o:=by
 first
 |exact CV rfl rfl hs rfl rfl (cV (by kernel_rfl)) ur (by kernel_rfl)
 |exact vG rfl rfl rfl rfl (by kernel_rfl) rfl hs xQ.ok (E5 rfl) rfl (by kernel_rfl) trivial ur rfl (by kernel_rfl)
 |exact vG rfl rfl rfl rfl (by kernel_rfl) rfl hs xQ.ok (E6 rfl) rfl (by kernel_rfl) trivial ur rfl (by kernel_rfl)):OpOk P ops ms c V A G i o:=h
theorem bo (h:OpOk P ops ms c V A G i o:=by
 first
 |exact P8 rfl rfl rfl hs rfl ur (by kernel_rfl) (by kernel_rfl) (by kernel_rfl)):OpOk P ops ms c V A G i o:=h
variable {j:Nat} {b cb:Bool}
theorem gd {op:Op} {dst:Option Nat} (h:cb=b->OpOk P ops ms c V A G i ⟨dst,op,ty,pos,aR,none⟩) (hq:lu j G=some (pB cb):=by exact rfl) (hA:¬cb=b->uh A i:=by intro hn; first|exact .none rfl|exact T1 rfl hn (by kernel_rfl)) (hp:¬cb=b->Post G i (bW undef):=by intro hn; first|exact UR hn rfl|exact .none rfl)
  (hj:(G.all λe=>e.tag != some j||((ms.getD i 0).testBit j&&jl ms i e.till))=true:=by kernel_rfl) (hb:(V.all λx=>(x.born != some i&&x.dead != some i)&&x.st.all λq=>q.1 != i)=true:=by kernel_rfl):OpOk P ops ms c V A G i ⟨dst,op,ty,pos,aR,some (j,b)⟩:=Tm hq h hA hp hj hb
theorem pK [Decidable φ] {op:Op} {dst:Option Nat} (h:φ/\cb=b->OpOk P ops ms c V A G i ⟨dst,op,ty,pos,aR,none⟩) (hq:lu j G=some (qj φ (pB cb)):=by exact rfl) (hA:¬(φ/\cb=b)->uh A i:=by intro hn; first|exact .none rfl|exact T1 rfl hn (by kernel_rfl)) (hp:¬(φ/\cb=b)->Post G i (bW undef):=by intro hn; first|exact UR hn rfl|exact .none rfl)
  (hj:(G.all λe=>e.tag != some j||((ms.getD i 0).testBit j&&jl ms i e.till))=true:=by kernel_rfl) (hb:(V.all λx=>(x.born != some i&&x.dead != some i)&&x.st.all λq=>q.1 != i)=true:=by kernel_rfl):OpOk P ops ms c V A G i ⟨dst,op,ty,pos,aR,some (j,b)⟩:=P9 hq h hA hp hj hb
variable {T:TypeId} {v:Vr}
theorem oM (l:List Zl) (hv:Fb i V=some v:=by exact rfl) (hT:v.T=T:=by exact rfl) (cO:v.kd=.ptr:=by exact rfl) (hc:v.c0=pv (pS (l.map Zl.fd)):=by exact rfl) (DY:v.agg=true:=by exact rfl)
  (hz:∀w,(zeroValue T).run P w=.ok (.agg (l.flatMap Zl.cs).toArray) w:=by exactλ_=>by kernel_rfl) (hl:(l.flatMap Zl.cs).length=v.n:=by exact rfl) (hst:((v.st.all λq=>(ms.getD q.1 0).testBit i)&&V.all λy=>y.dead != some i)=true:=by kernel_rfl) (hno:(G.all λe=>e.tag != some i)=true:=by kernel_rfl) (gU:(A.all λp=>p.var != v.id||p.tag.any λj=>(ms.getD j 0).testBit i)=true:=by kernel_rfl):
  OpOk P ops ms c V A G i ⟨some d,.alloc T,ty,pos,aR,none⟩:=J0 l hv hT cO hc DY hz hl hst hno gU
theorem Er (l:Zl) {z:Value} (hl:l.cs=[z]:=by exact rfl) (hv:Fb i V=some v:=by exact rfl) (hT:v.T=T:=by exact rfl) (cO:v.kd=.ptr:=by exact rfl) (hc:v.c0=pv l.fd.p:=by exact rfl) (DY:v.agg=false:=by exact rfl) (hn:v.n=1:=by exact rfl)
  (hz:∀w,(zeroValue T).run P w=.ok z w:=by exactλ_=>by kernel_rfl) (wX:z.cells=[z].toArray:=by exact rfl) (hp:∀w,l.fd.p w z:=by exactλ_=>rfl) (hst:((v.st.all λq=>(ms.getD q.1 0).testBit i)&&V.all λy=>y.dead != some i)=true:=by kernel_rfl) (hno:(G.all λe=>e.tag != some i)=true:=by kernel_rfl) (gU:(A.all λp=>p.var != v.id||p.tag.any λj=>(ms.getD j 0).testBit i)=true:=by kernel_rfl):
  OpOk P ops ms c V A G i ⟨some d,.alloc T,ty,pos,aR,none⟩:=G6 l hl hv hT cO hc DY hn hz wX hp hst hno gU
theorem fP {S f sz:Nat} {fs:List Fd} {q:Pred} (off n:Nat) (ag:Bool) (h:Has ms G i x (eH sz true (pS fs)):=by exact hs) (hq:G7 ag (xI fs off n)=some q:=by exact rfl) (hp:Post G i (eH n ag q):=by exact pt rfl) (hn:n≠0:=by decide) (hf:∀b o w,(Instr.fieldAt S (.pointer (some ⟨b,o,none⟩)) f).run P w=.ok (.pointer (some ⟨b,o+off,none⟩)) w:=by exactλ_ _ _=>by kernel_rfl)
  (hA:(A.all λq=>q.tag != some i)=true:=by kernel_rfl):OpOk P ops ms c V A G i ⟨some d,.fieldAddr S x f,ty,pos,aR,none⟩:=
 dA rfl rfl rfl (.inr hA) hp λL β a w hI hd=>by
  have hr:=h.spec hI hd
  obtain⟨b,o,cs,e,_⟩:=hr.out
  refine⟨.pointer (some ⟨b,o+off,none⟩),w,?_,Below.refl _ _,λw' he=>?_⟩
  ·show(do pure (Next.value (<-Instr.fieldAt S (a.eval x) f))).run P w=_
   rw[e,Sem.run_bind,hf]
   rfl
  ·obtain⟨b',o',cs',e',hl,hc,hp'⟩:=hr w' he
   rw[e]at e'
   injection e' with e'
   injection e' with e'
   injection e' with e1 e2
   subst e1 e2
   obtain⟨ds,e3,hds⟩:=hp'
   have e4:=cD (show av true cs'=av true ds from e3)
   subst e4
   cases hs:xI fs off n with
   |none=>rw[hs]at hq; cases ag<;>cases hq
   |some l=>
    rw[hs]at hq
    have hk:=Dr hs hds
    have hlen:=hk.2
    rw[if_neg hn]at hlen
    refine⟨b,o+off,(cs'.drop off).take n,rfl,by rw[List.length_take,List.length_drop]; omega,λj u hj=>?_,CZ hq hk.1⟩
    rw[List.getElem?_take]at hj
    split at hj
    ·rw[List.getElem?_drop]at hj
     rw[Nat.add_assoc]
     exact hc _ _ hj
    ·cases hj
variable {f:FuncId} {ts:Array TypeId} {p1 q1:Pred}
theorem uP (gX:φ->∀w v1,p1 w v1->Calls P f #[v1] w (eR p w)) (h1:Has ms G i x q1:=by exact hs) (c1:∀w v,q1 w v->p1 w v:=by exact nh) (hp:Post G i p:=by exact pt rfl) (hφ:φ:=by first|omega|trivial) (hn:aC p:=by exact Bw) (hf:aP P f:=by exactλ_ _=>by kernel_rfl):
  OpOk P ops ms c V A G i ⟨some d,.call ⟨.value (.func f),#[x],ts⟩,ty,pos,aR,none⟩:=gP hf hn (h1.imp c1) hp (gX hφ)
variable {p2 q2:Pred}
theorem xS (gX:φ->∀w v1 v2,p1 w v1->p2 w v2->Calls P f #[v1,v2] w (eR p w)) (h1:Has ms G i x q1:=by exact hs) (c1:∀w v,q1 w v->p1 w v:=by exact nh) (h2:Has ms G i y q2:=by exact hs) (c2:∀w v,q2 w v->p2 w v:=by exact nh) (hp:Post G i p:=by exact pt rfl) (hφ:φ:=by first|omega|trivial) (hn:aC p:=by exact Bw) (hf:aP P f:=by exactλ_ _=>by kernel_rfl):
  OpOk P ops ms c V A G i ⟨some d,.call ⟨.value (.func f),#[x,y],ts⟩,ty,pos,aR,none⟩:=cI hf hn (h1.imp c1) (h2.imp c2) hp (gX hφ)
theorem um (gX:φ->∀M w v1,dN M w->aS M (λw=>p1 w v1) w->Calls P f #[v1] w (bT M p w)) (h1:Has ms G i x q1:=by exact hs) (c1:∀w v,q1 w v->p1 w v:=by exact nh) (hp:Post G i p:=by exact pt rfl) (hφ:φ:=by first|omega|trivial) (hf:aP P f:=by exactλ_ _=>by kernel_rfl):
  OpOk P ops ms c V A G i ⟨some d,.call ⟨.value (.func f),#[x],ts⟩,ty,pos,aR,none⟩:=EA hf (h1.imp c1) hp (gX hφ)
theorem wC (gX:φ->∀M w v1 v2,dN M w->aS M (λw=>p1 w v1) w->aS M (λw=>p2 w v2) w->Calls P f #[v1,v2] w (bT M p w)) (h1:Has ms G i x q1:=by exact hs) (c1:∀w v,q1 w v->p1 w v:=by exact nh) (h2:Has ms G i y q2:=by exact hs) (c2:∀w v,q2 w v->p2 w v:=by exact nh) (hp:Post G i p:=by exact pt rfl) (hφ:φ:=by first|omega|trivial) (hf:aP P f:=by exactλ_ _=>by kernel_rfl):
  OpOk P ops ms c V A G i ⟨some d,.call ⟨.value (.func f),#[x,y],ts⟩,ty,pos,aR,none⟩:=vI hf (h1.imp c1) (h2.imp c2) hp (gX hφ)
end
section
variable {P:Program} {Q:Exit->Act->World->Prop} {c:dM} {V:List Vr} {G:List bg} {a:Act} {w:World}
end
end Wx
