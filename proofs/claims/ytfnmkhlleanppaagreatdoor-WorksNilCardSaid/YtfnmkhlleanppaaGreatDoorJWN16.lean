import Derived.Test.YtfnmkhlleanppaaGreatDoorCWNAuto
namespace Wx
open Go Go.RowKit
def AM (P:Program) (E:TypeId) (n:Nat):Bool:=match P.info? E with
 |some i=>Nat.beq i.size n
 |none=>false
variable {P:Program} {n:Nat}
theorem iT {E:TypeId} (h:AM P E n=true) (w:World):(Go.sizeOf E).run P w=.ok n w:=by
 unfold AM at h
 split at h
 ·rename_i i hi
  have:=Nat.eq_of_beq_eq_true h
  subst this
  simp[Go.sizeOf,typeInfo,hi]
 ·cases h
def yK (P:Program) (T:TypeId) (ag:Bool) (n:Nat):Bool:=AM P T n&&((ag||Nat.beq n 1)&&match P.underlying T with
 |some (.struct _)|some (.array _ _)=>ag
 |some _=>!ag
 |none=>false)
variable {T:TypeId} {ag:Bool}
theorem cn (h:yK P T ag n=true):Ty P T ag n:=by
 unfold yK at h
 rw[Bool.and_eq_true,Bool.and_eq_true]at h
 obtain⟨h1,h2,h3⟩:=h
 refine⟨λw=>?_,iT h1,λe=>?_⟩
 ·cases hu:P.underlying T with
  |none=>rw[hu]at h3; cases h3
  |some u=>
   rw[hu]at h3
   have hr:=run_underlying hu w
   simp only[isAgg,Sem.run_bind,hr,Result.andThen_ok]
   cases u<;>simp at h3<;>subst h3<;>rfl
 ·subst e; rw[Bool.false_or]at h2; exact Nat.eq_of_beq_eq_true h2
class wH (P:Program) (T:TypeId) (ag:outParam Bool) (n:outParam Nat):Prop where
 ok:Ty P T ag n
def Bc (P:Program) (T:TypeId) (sz:Nat):Bool:=match P.underlying T with
 |some (.slice E)=>AM P E sz
 |_=>false
variable {sz:Nat}
theorem tA (h:Bc P T sz=true):∃E,fS P T E sz:=by
 unfold Bc at h
 split at h
 ·rename_i E hE; exact⟨E,hE,iT h⟩
 ·cases h
def xI (P:Program) (T:TypeId):Bool:=match P.underlying T with
 |some (.slice _)=>true
 |_=>false
theorem uC (h:xI P T=true):∃E,P.underlying T=some (.slice E):=by
 unfold xI at h
 split at h
 ·rename_i E hE; exact⟨E,hE⟩
 ·cases h
def wP (P:Program) (T:TypeId) (len sz:Nat):Bool:=match P.underlying T with
 |some (.array n E)=>Nat.beq n len&&AM P E sz
 |_=>false
theorem gT {len:Nat} (h:wP P T len sz=true) {b off:Nat} {m:Int} (h0:0<=m) (h1:m<len) (w:World):(Instr.indexAt T (.pointer (some ⟨b,off,none⟩)) (.int .i64 m)).run P w=.ok (.pointer (some ⟨b,off+m.toNat*sz,none⟩)) w:=by
 unfold wP at h
 split at h
 ·rename_i n E hE
  rw[Bool.and_eq_true]at h
  have e:=Nat.eq_of_beq_eq_true h.1
  subst e
  have hu:(underlying T).run P w=.ok (.array n E) w:=run_underlying hE w
  simp only[Instr.indexAt,asIntOf,pure_bind,Sem.run_bind,hu,Result.andThen_ok,Instr.sureAddr]
  rw[if_pos ⟨h0,h1⟩]
  simp only[Sem.run_bind,iT h.2,Result.andThen_ok,Sem.run_pure,Addr.add_mid]
 ·cases h
variable {p:Pred}
theorem qa (h:Fits n ag p:=by
 first
 |exact kU
 |exact kT
 |exact fits_int _
 |exact fits_bool _
 |exact mm _
 |exact mo _
 |exact jb _ _ _
 |exact aC
 |exact mq _
 |exact oT (λ_=>kU) (by first|rfl|omega|(simp; omega))
 |exact oT (λ_=>kT) (by first|rfl|omega|(simp; omega))
 |exact kW (by repeat' (first|exact trivial|exact kU|exact kT|exact fits_int _|exact fits_bool _|exact jb _ _ _|exact aC|exact mq _|refine⟨?_,?_⟩)) rfl):Fits n ag p:=h
variable {q:Pred}
theorem gh (h:∀w v,p w v->q w v:=by
 first
 |exactλ_ _ h=>h
 |exact ng (by omega)
 |exact tg (by omega)
 |exact pM.pV (by repeat' (first|exact pM.z|refine pM.c (by omega) ?_))
 |exactλ_ _ h=>h
 |exactλ_ _ h=>h.2):∀w v,p w v->q w v:=h
variable {i:Nat}
theorem Has.Ct {ms:List Nat} {G:List aD} {x:Operand} {φ ψ:Prop} (h:Has ms G i x (gQ (φ/\ψ) q)) (hφ:φ):Has ms G i x (gQ ψ q):=
 h.imp λ_ _ k=>⟨λhψ=>k.1 ⟨hφ,hψ⟩,λhψ=>k.2 λhh=>hψ hh.2⟩
theorem Bj {A:List Al} {al:Al} (h:tX i A=some al) (hn:¬al.cond) (hu:(A.filter λq=>q.tag==some i).length=1):iV A i:=by
 obtain⟨⟨k,hk⟩,ht⟩:=gp h
 exact .at_ k hk ht hu hn
def tm:Nat->Nat->List Nat
 |0,_=>[]
 |n+1,k=>k::tm n (2*k+1)
section
variable {P:Program} {ops:Array Oper} {ms:List Nat} {c:bD} {V:List Vr} {A:List Al} {G:List aD} {i:Nat}{d:Nat} {x y z:Operand} {ty:TypeId} {pos:String} {aj:Array Edge}{T:TypeId} {sz n:Nat} {agg:Bool} {f:Nat->Pred}
theorem we (h:Has ms G i x (aK sz agg n f)) (hp:Post G i (pI (n:Int))) (ht:xI P T=true):
  OpOk P ops ms c V A G i ⟨some d,.call ⟨.builtin .len,#[x],#[T]⟩,ty,pos,aj,none⟩:=(uC ht).elim λ_ hE=>yh h hE hp
theorem aV {m:Int} (k:Nat) (h:Has ms G i x (aK sz agg n f)) (hy:Has ms G i y (pI m)) (hm:m=(k:Int)) (hp:Post G i (cH sz agg (f k))) (hk:k<n) (ht:Bc P T sz=true) (hA:(A.all λq=>q.tag != some i)=true):
  OpOk P ops ms c V A G i ⟨some d,.indexAddr T x y,ty,pos,aj,none⟩:=by
 obtain⟨E,hE⟩:=tA ht
 subst hm
 exact mY h hy hE (by omega) (by omega) hA (by rw[Int.toNat_natCast]; exact hp)
theorem aI {p:Pred} (h:Has ms G i x (cH sz agg p)) (hp:Post G i p) (ht:yK P T agg sz=true) (hfit:Fits sz agg p):OpOk P ops ms c V A G i ⟨some d,.load T x,ty,pos,aj,none⟩:=
 sR h (cn ht) hfit hp
variable {cb b2:Bool}
theorem vW (h:Has ms G i x (pB cb)) (hy:Has ms G i y (gQ (cb=true) (pB b2))) (hz:Has ms G i z (pB false)) (hp:Post G i (pB (cb&&b2))):OpOk P ops ms c V A G i ⟨some d,.pick x y z,ty,pos,aj,none⟩:=
 lF h (λe=>(hy.yX e).imp λ_ _ k=>by rw[e]; exact k) (λe=>hz.imp λ_ _ k=>by rw[e]; exact k) hp
theorem Aq (h:Has ms G i x (pB cb)) (hy:Has ms G i y (pB true)) (hz:Has ms G i z (gQ (cb=false) (pB b2))) (hp:Post G i (pB (cb||b2))):OpOk P ops ms c V A G i ⟨some d,.pick x y z,ty,pos,aj,none⟩:=
 lF h (λe=>hy.imp λ_ _ k=>by rw[e]; exact k) (λe=>(hz.yX e).imp λ_ _ k=>by rw[e]; exact k) hp
end
end Wx

namespace Wx
open Go Go.RowKit
section
variable {P:Program} {ops:Array Oper} {ms:List Nat} {c:bD} {V:List Vr} {A:List Al} {G:List aD} {i:Nat}{d:Nat} {x y z:Operand} {ty:TypeId} {pos:String} {aj:Array Edge}{p:Pred}
theorem hs (h:Has ms G i x p:=by
 first
 |exact look rfl
 |exact .const _
 |exact .func _):Has ms G i x p:=h
theorem hg (h:Has ms G i x p:=by
 first
 |exact .const _
 |exact .func _
 |exact Has.yX (look rfl) (by assumption)
 |exact Has.yX (look rfl) (And.left (by assumption))
 |exact Has.Ct (look rfl) (by assumption)
 |exact look rfl):Has ms G i x p:=h
variable {φ:Prop}
theorem pg (hc:φ) (h:dQ i G=some (gQ φ p)):Post G i p:=Ee hc h
variable {o:Oper}
theorem mv (h:OpOk P ops ms c V A G i o:=by
 first
 |exact pe hs (pt rfl)
 |exact ko hs (pt rfl)):OpOk P ops ms c V A G i o:=h
theorem fu (hc:φ) {o:Oper} (h:φ->OpOk P ops ms c V A G i o:=by
 intro hc
 first
 |exact pe hg (pg hc rfl)
 |exact ko hg (pg hc rfl)):OpOk P ops ms c V A G i o:=h hc
theorem bn (h:OpOk P ops ms c V A G i o:=by
 first
 |exact wh hs hs (pt rfl)
 |exact wg hs hs (pt rfl)
 |exact vZ hs hs (pt rfl)
 |exact vY hs hs (pt rfl)
 |exact vX hs hs (pt rfl)
 |exact wm hs hs (pt rfl)
 |exact vV hs hs (pt rfl)
 |exact wo hs hs (pt rfl)
 |exact wj hs hs (pt rfl)):OpOk P ops ms c V A G i o:=h
theorem lS (hc:φ) {o:Oper} (h:φ->OpOk P ops ms c V A G i o:=by
 intro hc
 first
 |exact wh hg hg (pg hc rfl)
 |exact wg hg hg (pg hc rfl)
 |exact vZ hg hg (pg hc rfl)
 |exact vY hg hg (pg hc rfl)
 |exact vX hg hg (pg hc rfl)
 |exact wm hg hg (pg hc rfl)
 |exact vV hg hg (pg hc rfl)
 |exact wo hg hg (pg hc rfl)
 |exact wj hg hg (pg hc rfl)):OpOk P ops ms c V A G i o:=h hc
theorem nt (h:OpOk P ops ms c V A G i o:=by
 first
 |exact sS hs (pt rfl)):OpOk P ops ms c V A G i o:=h
theorem CK (hc:φ) {o:Oper} (h:φ->OpOk P ops ms c V A G i o:=by
 intro hc
 first
 |exact sS hg (pg hc rfl)):OpOk P ops ms c V A G i o:=h hc
theorem ln (h:OpOk P ops ms c V A G i o:=by
 first
 |exact we hs (pt rfl) (by kernel_rfl)):OpOk P ops ms c V A G i o:=h
theorem BJ (hc:φ) {o:Oper} (h:φ->OpOk P ops ms c V A G i o:=by
 intro hc
 first
 |exact we hg (pg hc rfl) (by kernel_rfl)):OpOk P ops ms c V A G i o:=h hc
theorem fa (h:OpOk P ops ms c V A G i o:=by
 first
 |exact uU rfl rfl rfl rfl rfl (λ_ _=>by kernel_rfl) rfl (by kernel_rfl) (by kernel_rfl)
 |exact qo rfl rfl rfl rfl rfl rfl (λ_ _=>by kernel_rfl) rfl trivial (by kernel_rfl) (by kernel_rfl)
 |exact uV rfl rfl rfl rfl rfl hs (λ_ _=>by kernel_rfl) rfl (by kernel_rfl) (by kernel_rfl)
 |exact qp rfl rfl rfl rfl rfl rfl hs (λ_ _=>by kernel_rfl) rfl trivial (by kernel_rfl) (by kernel_rfl)):OpOk P ops ms c V A G i o:=h
theorem ix (h:OpOk P ops ms c V A G i o:=by
 first
 |exact aV _ hs hs rfl (pt rfl) (by omega) (by kernel_rfl) (by kernel_rfl)
 |exact aV _ hs hs (Int.toNat_of_nonneg (by omega)).symm (pt rfl) (by omega) (by kernel_rfl) (by kernel_rfl)):OpOk P ops ms c V A G i o:=h
theorem ext (h:OpOk P ops ms c V A G i o:=by
 first
 |exact cD hs zx (pt rfl)
 |exact cD hs zy (pt rfl)
 |exact cD hs zz (pt rfl)
 |exact cD hs zA (pt rfl)
 |exact cD hs zB (pt rfl)):OpOk P ops ms c V A G i o:=h
theorem pk (h:OpOk P ops ms c V A G i o:=by
 first
 |exact vW hs hs hs (pt rfl)
 |exact Aq hs hs hs (pt rfl)):OpOk P ops ms c V A G i o:=h
theorem Dt (hc:φ) {o:Oper} (h:φ->OpOk P ops ms c V A G i o:=by
 intro hc
 first
 |exact vW hg hg hg (pg hc rfl)
 |exact Aq hg hg hg (pg hc rfl)):OpOk P ops ms c V A G i o:=h hc
theorem AK (h:OpOk P ops ms c V A G i o:=by
 first
 |exact gN rfl rfl hs rfl rfl (cn (by kernel_rfl)) qa (by kernel_rfl)
 |exact kj rfl rfl rfl rfl (by kernel_rfl) rfl hs wH.ok (qI rfl) rfl (by kernel_rfl) trivial qa rfl (by kernel_rfl)
 |exact kj rfl rfl rfl rfl (by kernel_rfl) rfl hs wH.ok (qJ rfl) rfl (by kernel_rfl) trivial qa rfl (by kernel_rfl)):OpOk P ops ms c V A G i o:=h
theorem bo (h:OpOk P ops ms c V A G i o:=by
 first
 |exact Ao rfl rfl rfl hs rfl qa (by kernel_rfl) (by kernel_rfl) (by kernel_rfl)):OpOk P ops ms c V A G i o:=h
variable {j:Nat} {b cb:Bool}
theorem gd {op:Op} {dst:Option Nat} (h:cb=b->OpOk P ops ms c V A G i ⟨dst,op,ty,pos,aj,none⟩) (hq:dQ j G=some (pB cb):=by exact rfl) (hA:¬cb=b->iV A i:=by intro hn; first|exact .none rfl|exact Bj rfl hn (by kernel_rfl)) (hp:¬cb=b->Post G i (aE undef):=by intro hn; first|exact Cr hn rfl|exact .none rfl)
  (hj:(G.all λe=>e.tag != some j||((ms.getD i 0).testBit j&&dH ms i e.till))=true:=by kernel_rfl) (hb:(V.all λx=>(x.born != some i&&x.dead != some i)&&x.st.all λq=>q.1 != i)=true:=by kernel_rfl):OpOk P ops ms c V A G i ⟨dst,op,ty,pos,aj,some (j,b)⟩:=Cm hq h hA hp hj hb
theorem BG [Decidable φ] {op:Op} {dst:Option Nat} (h:φ/\cb=b->OpOk P ops ms c V A G i ⟨dst,op,ty,pos,aj,none⟩) (hq:dQ j G=some (gQ φ (pB cb)):=by exact rfl) (hA:¬(φ/\cb=b)->iV A i:=by intro hn; first|exact .none rfl|exact Bj rfl hn (by kernel_rfl)) (hp:¬(φ/\cb=b)->Post G i (aE undef):=by intro hn; first|exact Cr hn rfl|exact .none rfl)
  (hj:(G.all λe=>e.tag != some j||((ms.getD i 0).testBit j&&dH ms i e.till))=true:=by kernel_rfl) (hb:(V.all λx=>(x.born != some i&&x.dead != some i)&&x.st.all λq=>q.1 != i)=true:=by kernel_rfl):OpOk P ops ms c V A G i ⟨dst,op,ty,pos,aj,some (j,b)⟩:=Ap hq h hA hp hj hb
variable {T:TypeId} {v:Vr}
theorem Cl (l:List Zl) (hv:tF i V=some v:=by exact rfl) (hT:v.T=T:=by exact rfl) (bH:v.kd=.ptr:=by exact rfl) (hc:v.c0=pv (pS (l.map Zl.fd)):=by exact rfl) (hag:v.agg=true:=by exact rfl)
  (hz:∀w,(zeroValue T).run P w=.ok (.agg (l.flatMap Zl.cs).toArray) w:=by exactλ_=>by kernel_rfl) (hl:(l.flatMap Zl.cs).length=v.n:=by exact rfl) (hst:((v.st.all λq=>(ms.getD q.1 0).testBit i)&&V.all λy=>y.dead != some i)=true:=by kernel_rfl) (hno:(G.all λe=>e.tag != some i)=true:=by kernel_rfl) (hal:(A.all λp=>p.var != v.id||p.tag.any λj=>(ms.getD j 0).testBit i)=true:=by kernel_rfl):
  OpOk P ops ms c V A G i ⟨some d,.alloc T,ty,pos,aj,none⟩:=uT l hv hT bH hc hag hz hl hst hno hal
theorem xY (l:Zl) {z:Value} (hl:l.cs=[z]:=by exact rfl) (hv:tF i V=some v:=by exact rfl) (hT:v.T=T:=by exact rfl) (bH:v.kd=.ptr:=by exact rfl) (hc:v.c0=pv l.fd.p:=by exact rfl) (hag:v.agg=false:=by exact rfl) (hn:v.n=1:=by exact rfl)
  (hz:∀w,(zeroValue T).run P w=.ok z w:=by exactλ_=>by kernel_rfl) (jN:z.cells=[z].toArray:=by exact rfl) (hp:∀w,l.fd.p w z:=by exactλ_=>rfl) (hst:((v.st.all λq=>(ms.getD q.1 0).testBit i)&&V.all λy=>y.dead != some i)=true:=by kernel_rfl) (hno:(G.all λe=>e.tag != some i)=true:=by kernel_rfl) (hal:(A.all λp=>p.var != v.id||p.tag.any λj=>(ms.getD j 0).testBit i)=true:=by kernel_rfl):
  OpOk P ops ms c V A G i ⟨some d,.alloc T,ty,pos,aj,none⟩:=sK l hl hv hT bH hc hag hn hz jN hp hst hno hal
theorem fP {S f sz:Nat} {fs:List Fd} {q:Pred} (off n:Nat) (ag:Bool) (h:Has ms G i x (cH sz true (pS fs)):=by exact hs) (hq:uX ag (nx fs off n)=some q:=by exact rfl) (hp:Post G i (cH n ag q):=by exact pt rfl) (hn:n≠0:=by decide) (hf:∀b o w,(Instr.fieldAt S (.pointer (some ⟨b,o,none⟩)) f).run P w=.ok (.pointer (some ⟨b,o+off,none⟩)) w:=by exactλ_ _ _=>by kernel_rfl)
  (hA:(A.all λq=>q.tag != some i)=true:=by kernel_rfl):OpOk P ops ms c V A G i ⟨some d,.fieldAddr S x f,ty,pos,aj,none⟩:=
 bu rfl rfl rfl (.inr hA) hp λL β a w hI hd=>by
  have hr:=h.spec hI hd
  obtain⟨b,o,cs,e,_⟩:=hr.out
  refine⟨.pointer (some ⟨b,o+off,none⟩),w,?_,Below.refl _ _,λw' he=>?_⟩
  ·show(do pure (Next.value (<-Instr.fieldAt S (a.eval x) f))).run P w=_
   rw[e,Sem.run_bind,hf]
   rfl
  ·obtain⟨b',o',cs',e',hl,hc,hp'⟩:=hr w' he
   rw[e]at e'
   injection e' with e'
   injection e' with e'
   injection e' with e1 e2
   subst e1 e2
   obtain⟨ds,e3,hds⟩:=hp'
   have e4:=bO (show ae true cs'=ae true ds from e3)
   subst e4
   cases hs:nx fs off n with
   |none=>rw[hs]at hq; cases ag<;>cases hq
   |some l=>
    rw[hs]at hq
    have hk:=pJ hs hds
    have hlen:=hk.2
    rw[if_neg hn]at hlen
    refine⟨b,o+off,(cs'.drop off).take n,rfl,by rw[List.length_take,List.length_drop]; omega,λj u hj=>?_,pc hq hk.1⟩
    rw[List.getElem?_take]at hj
    split at hj
    ·rw[List.getElem?_drop]at hj
     rw[Nat.add_assoc]
     exact hc _ _ hj
    ·cases hj
variable {f:FuncId} {ts:Array TypeId} {p1 q1:Pred}
theorem qO (dS:φ->∀M w v1,cQ M w->aL M (λw=>p1 w v1) w->Calls P f #[v1] w (bK M p w)) (h1:Has ms G i x q1:=by exact hs) (c1:∀w v,q1 w v->p1 w v:=by exact gh) (hp:Post G i p:=by exact pt rfl) (hφ:φ:=by first|omega|trivial) (hf:ax P f:=by exactλ_ _=>by kernel_rfl):
  OpOk P ops ms c V A G i ⟨some d,.call ⟨.value (.func f),#[x],ts⟩,ty,pos,aj,none⟩:=qs hf (h1.imp c1) hp (dS hφ)
theorem iB {p2 q2:Pred} (dS:φ->∀M w v1 v2,cQ M w->aL M (λw=>p1 w v1) w->aL M (λw=>p2 w v2) w->Calls P f #[v1,v2] w (bK M p w)) (h1:Has ms G i x q1:=by exact hs) (c1:∀w v,q1 w v->p1 w v:=by exact gh) (h2:Has ms G i y q2:=by exact hs) (c2:∀w v,q2 w v->p2 w v:=by exact gh) (hp:Post G i p:=by exact pt rfl) (hφ:φ:=by first|omega|trivial) (hf:ax P f:=by exactλ_ _=>by kernel_rfl):
  OpOk P ops ms c V A G i ⟨some d,.call ⟨.value (.func f),#[x,y],ts⟩,ty,pos,aj,none⟩:=kp hf (h1.imp c1) (h2.imp c2) hp (dS hφ)
end
section
variable {P:Program} {Q:Exit->Act->World->Prop} {c:bD} {V:List Vr} {G:List aD} {a:Act} {w:World}
end
end Wx
