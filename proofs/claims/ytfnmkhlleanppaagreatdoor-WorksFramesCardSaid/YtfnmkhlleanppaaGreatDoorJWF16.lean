import Derived.Test.YtfnmkhlleanppaaGreatDoorCWFAuto
namespace Wx
open Go Go.RowKit
def CV (P:Program) (E:TypeId) (n:Nat):Bool:=match P.info? E with
 |some i=>Nat.beq i.size n
 |none=>false
variable {P:Program} {n:Nat}
theorem jP {E:TypeId} (h:CV P E n=true) (w:World):(Go.sizeOf E).run P w=.ok n w:=by
 unfold CV at h
 split at h
 ·rename_i i hi
  have:=Nat.eq_of_beq_eq_true h
  subst this
  simp[Go.sizeOf,typeInfo,hi]
 ·cases h
def Bc (P:Program) (T:TypeId) (ag:Bool) (n:Nat):Bool:=CV P T n&&((ag||Nat.beq n 1)&&match P.underlying T with
 |some (.struct _)|some (.array _ _)=>ag
 |some _=>!ag
 |none=>false)
variable {T:TypeId} {ag:Bool}
theorem cP (h:Bc P T ag n=true):Ty P T ag n:=by
 unfold Bc at h
 rw[Bool.and_eq_true,Bool.and_eq_true]at h
 obtain⟨h1,h2,h3⟩:=h
 refine⟨λw=>?_,jP h1,λe=>?_⟩
 ·cases hu:P.underlying T with
  |none=>rw[hu]at h3; cases h3
  |some u=>
   rw[hu]at h3
   have hr:=run_underlying hu w
   simp only[isAgg,Sem.run_bind,hr,Result.andThen_ok]
   cases u<;>simp at h3<;>subst h3<;>rfl
 ·subst e; rw[Bool.false_or]at h2; exact Nat.eq_of_beq_eq_true h2
class zl (P:Program) (T:TypeId) (ag:outParam Bool) (n:outParam Nat):Prop where
 ok:Ty P T ag n
def za (P:Program) (T:TypeId) (sz:Nat):Bool:=match P.underlying T with
 |some (.slice E)=>CV P E sz
 |_=>false
variable {sz:Nat}
theorem jm (h:za P T sz=true):∃E,eO P T E sz:=by
 unfold za at h
 split at h
 ·rename_i E hE; exact⟨E,hE,jP h⟩
 ·cases h
def Ag (P:Program) (T:TypeId):Bool:=match P.underlying T with
 |some (.slice _)=>true
 |_=>false
theorem wU (h:Ag P T=true):∃E,P.underlying T=some (.slice E):=by
 unfold Ag at h
 split at h
 ·rename_i E hE; exact⟨E,hE⟩
 ·cases h
def zw (P:Program) (T:TypeId) (len sz:Nat):Bool:=match P.underlying T with
 |some (.array n E)=>Nat.beq n len&&CV P E sz
 |_=>false
theorem iQ {len:Nat} (h:zw P T len sz=true) {b off:Nat} {m:Int} (h0:0<=m) (h1:m<len) (w:World):(Instr.indexAt T (.pointer (some ⟨b,off,none⟩)) (.int .i64 m)).run P w=.ok (.pointer (some ⟨b,off+m.toNat*sz,none⟩)) w:=by
 unfold zw at h
 split at h
 ·rename_i n E hE
  rw[Bool.and_eq_true]at h
  have e:=Nat.eq_of_beq_eq_true h.1
  subst e
  have hu:(underlying T).run P w=.ok (.array n E) w:=run_underlying hE w
  simp only[Instr.indexAt,asIntOf,pure_bind,Sem.run_bind,hu,Result.andThen_ok,Instr.sureAddr]
  rw[if_pos ⟨h0,h1⟩]
  simp only[Sem.run_bind,jP h.2,Result.andThen_ok,Sem.run_pure,Addr.add_mid]
 ·cases h
variable {p:Pred}
theorem tR (h:Fits n ag p:=by
 first
 |exact mL
 |exact mK
 |exact fits_int _
 |exact fits_bool _
 |exact nQ _
 |exact nR _
 |exact jX _ _ _
 |exact aJ
 |exact nT _
 |exact qM (λ_=>mL) (by first|rfl|omega|(simp; omega))
 |exact qM (λ_=>mK) (by first|rfl|omega|(simp; omega))
 |exact mM (by repeat' (first|exact trivial|exact mL|exact mK|exact fits_int _|exact fits_bool _|exact jX _ _ _|exact aJ|exact nT _|refine⟨?_,?_⟩)) rfl):Fits n ag p:=h
variable {q:Pred}
theorem ic (h:∀w v,p w v->q w v:=by
 first
 |exactλ_ _ h=>h
 |exact oK (by omega)
 |exact vp (by omega)
 |exact rM.pV (by repeat' (first|exact rM.z|refine rM.c (by omega) ?_))
 |exactλ_ _ h=>h
 |exactλ_ _ h=>h.2):∀w v,p w v->q w v:=h
variable {i:Nat}
theorem Has.Ey {ms:List Nat} {G:List aK} {x:Operand} {φ ψ:Prop} (h:Has ms G i x (ji (φ/\ψ) q)) (hφ:φ):Has ms G i x (ji ψ q):=
 h.imp λ_ _ k=>⟨λhψ=>k.1 ⟨hφ,hψ⟩,λhψ=>k.2 λhh=>hψ hh.2⟩
theorem EN {A:List Al} {al:Al} (h:BH i A=some al) (hn:¬al.cond) (hu:(A.filter λq=>q.tag==some i).length=1):kZ A i:=by
 obtain⟨⟨k,hk⟩,ht⟩:=vZ h
 exact .at_ k hk ht hu hn
def tm:Nat->Nat->List Nat
 |0,_=>[]
 |n+1,k=>k::tm n (2*k+1)
section
variable {P:Program} {ops:Array Oper} {ms:List Nat} {c:bO} {V:List Vr} {A:List Al} {G:List aK} {i:Nat}{d:Nat} {x y z:Operand} {ty:TypeId} {pos:String} {ax:Array Edge}{T:TypeId} {sz n:Nat} {agg:Bool} {f:Nat->Pred}
theorem yN (h:Has ms G i x (az sz agg n f)) (hp:Post G i (pI (n:Int))) (ht:Ag P T=true):
  OpOk P ops ms c V A G i ⟨some d,.call ⟨.builtin .len,#[x],#[T]⟩,ty,pos,ax,none⟩:=(wU ht).elim λ_ hE=>AL h hE hp
theorem bh {m:Int} (k:Nat) (h:Has ms G i x (az sz agg n f)) (hy:Has ms G i y (pI m)) (hm:m=(k:Int)) (hp:Post G i (cV sz agg (f k))) (hk:k<n) (ht:za P T sz=true) (hA:(A.all λq=>q.tag != some i)=true):
  OpOk P ops ms c V A G i ⟨some d,.indexAddr T x y,ty,pos,ax,none⟩:=by
 obtain⟨E,hE⟩:=jm ht
 subst hm
 exact ju h hy hE (by omega) (by omega) hA (by rw[Int.toNat_natCast]; exact hp)
theorem aH {p:Pred} (h:Has ms G i x (cV sz agg p)) (hp:Post G i p) (ht:Bc P T agg sz=true) (hfit:Fits sz agg p):OpOk P ops ms c V A G i ⟨some d,.load T x,ty,pos,ax,none⟩:=
 uV h (cP ht) hfit hp
variable {cb b2:Bool}
theorem yJ (h:Has ms G i x (pB cb)) (hy:Has ms G i y (ji (cb=true) (pB b2))) (hz:Has ms G i z (pB false)) (hp:Post G i (pB (cb&&b2))):OpOk P ops ms c V A G i ⟨some d,.pick x y z,ty,pos,ax,none⟩:=
 ni h (λe=>(hy.Bz e).imp λ_ _ k=>by rw[e]; exact k) (λe=>hz.imp λ_ _ k=>by rw[e]; exact k) hp
theorem CF (h:Has ms G i x (pB cb)) (hy:Has ms G i y (pB true)) (hz:Has ms G i z (ji (cb=false) (pB b2))) (hp:Post G i (pB (cb||b2))):OpOk P ops ms c V A G i ⟨some d,.pick x y z,ty,pos,ax,none⟩:=
 ni h (λe=>hy.imp λ_ _ k=>by rw[e]; exact k) (λe=>(hz.Bz e).imp λ_ _ k=>by rw[e]; exact k) hp
end
end Wx

namespace Wx
open Go Go.RowKit
section
variable {P:Program} {ops:Array Oper} {ms:List Nat} {c:bO} {V:List Vr} {A:List Al} {G:List aK} {i:Nat}{d:Nat} {x y z:Operand} {ty:TypeId} {pos:String} {ax:Array Edge}{p:Pred}
theorem hs (h:Has ms G i x p:=by
 first
 |exact look rfl
 |exact .const _
 |exact .func _):Has ms G i x p:=h
theorem hg (h:Has ms G i x p:=by
 first
 |exact .const _
 |exact .func _
 |exact Has.Bz (look rfl) (by assumption)
 |exact Has.Bz (look rfl) (And.left (by assumption))
 |exact Has.Ey (look rfl) (by assumption)
 |exact look rfl):Has ms G i x p:=h
variable {φ:Prop}
theorem pg (hc:φ) (h:fS i G=some (ji φ p)):Post G i p:=Gn hc h
variable {o:Oper}
theorem mv (h:OpOk P ops ms c V A G i o:=by
 first
 |exact rh hs (pt rfl)
 |exact lW hs (pt rfl)):OpOk P ops ms c V A G i o:=h
theorem er (hc:φ) {o:Oper} (h:φ->OpOk P ops ms c V A G i o:=by
 intro hc
 first
 |exact rh hg (pg hc rfl)
 |exact lW hg (pg hc rfl)):OpOk P ops ms c V A G i o:=h hc
theorem bn (h:OpOk P ops ms c V A G i o:=by
 first
 |exact yP hs hs (pt rfl)
 |exact yO hs hs (pt rfl)
 |exact yM hs hs (pt rfl)
 |exact yL hs hs (pt rfl)
 |exact yK hs hs (pt rfl)
 |exact yS hs hs (pt rfl)
 |exact yI hs hs (pt rfl)
 |exact yT hs hs (pt rfl)
 |exact yQ hs hs (pt rfl)):OpOk P ops ms c V A G i o:=h
theorem lM (hc:φ) {o:Oper} (h:φ->OpOk P ops ms c V A G i o:=by
 intro hc
 first
 |exact yP hg hg (pg hc rfl)
 |exact yO hg hg (pg hc rfl)
 |exact yM hg hg (pg hc rfl)
 |exact yL hg hg (pg hc rfl)
 |exact yK hg hg (pg hc rfl)
 |exact yS hg hg (pg hc rfl)
 |exact yI hg hg (pg hc rfl)
 |exact yT hg hg (pg hc rfl)
 |exact yQ hg hg (pg hc rfl)):OpOk P ops ms c V A G i o:=h hc
theorem nt (h:OpOk P ops ms c V A G i o:=by
 first
 |exact uX hs (pt rfl)):OpOk P ops ms c V A G i o:=h
theorem EX (hc:φ) {o:Oper} (h:φ->OpOk P ops ms c V A G i o:=by
 intro hc
 first
 |exact uX hg (pg hc rfl)):OpOk P ops ms c V A G i o:=h hc
theorem ln (h:OpOk P ops ms c V A G i o:=by
 first
 |exact yN hs (pt rfl) (by kernel_rfl)):OpOk P ops ms c V A G i o:=h
theorem EW (hc:φ) {o:Oper} (h:φ->OpOk P ops ms c V A G i o:=by
 intro hc
 first
 |exact yN hg (pg hc rfl) (by kernel_rfl)):OpOk P ops ms c V A G i o:=h hc
theorem ix (h:OpOk P ops ms c V A G i o:=by
 first
 |exact bh _ hs hs rfl (pt rfl) (by omega) (by kernel_rfl) (by kernel_rfl)
 |exact bh _ hs hs (Int.toNat_of_nonneg (by omega)).symm (pt rfl) (by omega) (by kernel_rfl) (by kernel_rfl)):OpOk P ops ms c V A G i o:=h
theorem ext (h:OpOk P ops ms c V A G i o:=by
 first
 |exact cU hs BX (pt rfl)
 |exact cU hs BZ (pt rfl)
 |exact cU hs B0 (pt rfl)
 |exact cU hs B1 (pt rfl)
 |exact cU hs B2 (pt rfl)):OpOk P ops ms c V A G i o:=h
theorem pk (h:OpOk P ops ms c V A G i o:=by
 first
 |exact yJ hs hs hs (pt rfl)
 |exact CF hs hs hs (pt rfl)):OpOk P ops ms c V A G i o:=h
theorem FH (hc:φ) {o:Oper} (h:φ->OpOk P ops ms c V A G i o:=by
 intro hc
 first
 |exact yJ hg hg hg (pg hc rfl)
 |exact CF hg hg hg (pg hc rfl)):OpOk P ops ms c V A G i o:=h hc
theorem Gu (h:OpOk P ops ms c V A G i o:=by
 first
 |exact iN rfl rfl hs rfl rfl (cP (by kernel_rfl)) tR (by kernel_rfl)
 |exact lT rfl rfl rfl rfl (by kernel_rfl) rfl hs zl.ok (sV rfl) rfl (by kernel_rfl) trivial tR rfl (by kernel_rfl)
 |exact lT rfl rfl rfl rfl (by kernel_rfl) rfl hs zl.ok (sW rfl) rfl (by kernel_rfl) trivial tR rfl (by kernel_rfl)):OpOk P ops ms c V A G i o:=h
theorem bo (h:OpOk P ops ms c V A G i o:=by
 first
 |exact CD rfl rfl rfl hs rfl tR (by kernel_rfl) (by kernel_rfl) (by kernel_rfl)):OpOk P ops ms c V A G i o:=h
variable {j:Nat} {b cb:Bool}
theorem gd {op:Op} {dst:Option Nat} (h:cb=b->OpOk P ops ms c V A G i ⟨dst,op,ty,pos,ax,none⟩) (hq:fS j G=some (pB cb):=by exact rfl) (hA:¬cb=b->kZ A i:=by intro hn; first|exact .none rfl|exact EN rfl hn (by kernel_rfl)) (hp:¬cb=b->Post G i (aL undef):=by intro hn; first|exact Fh hn rfl|exact .none rfl)
  (hj:(G.all λe=>e.tag != some j||((ms.getD i 0).testBit j&&eI ms i e.till))=true:=by kernel_rfl) (hb:(V.all λx=>(x.born != some i&&x.dead != some i)&&x.st.all λq=>q.1 != i)=true:=by kernel_rfl):OpOk P ops ms c V A G i ⟨dst,op,ty,pos,ax,some (j,b)⟩:=En hq h hA hp hj hb
theorem DR [Decidable φ] {op:Op} {dst:Option Nat} (h:φ/\cb=b->OpOk P ops ms c V A G i ⟨dst,op,ty,pos,ax,none⟩) (hq:fS j G=some (ji φ (pB cb)):=by exact rfl) (hA:¬(φ/\cb=b)->kZ A i:=by intro hn; first|exact .none rfl|exact EN rfl hn (by kernel_rfl)) (hp:¬(φ/\cb=b)->Post G i (aL undef):=by intro hn; first|exact Fh hn rfl|exact .none rfl)
  (hj:(G.all λe=>e.tag != some j||((ms.getD i 0).testBit j&&eI ms i e.till))=true:=by kernel_rfl) (hb:(V.all λx=>(x.born != some i&&x.dead != some i)&&x.st.all λq=>q.1 != i)=true:=by kernel_rfl):OpOk P ops ms c V A G i ⟨dst,op,ty,pos,ax,some (j,b)⟩:=CE hq h hA hp hj hb
theorem CC {T:TypeId} {v:Vr} (l:Zl) {z:Value} (hl:l.cs=[z]:=by exact rfl) (hv:qE i V=some v:=by exact rfl) (hT:v.T=T:=by exact rfl) (cn:v.kd=.ptr:=by exact rfl) (hc:v.c0=pv l.fd.p:=by exact rfl) (hag:v.agg=false:=by exact rfl) (hn:v.n=1:=by exact rfl)
  (hz:∀w,(zeroValue T).run P w=.ok z w:=by exactλ_=>by kernel_rfl) (lB:z.cells=[z].toArray:=by exact rfl) (hp:∀w,l.fd.p w z:=by exactλ_=>rfl) (hst:((v.st.all λq=>(ms.getD q.1 0).testBit i)&&V.all λy=>y.dead != some i)=true:=by kernel_rfl) (hno:(G.all λe=>e.tag != some i)=true:=by kernel_rfl) (hal:(A.all λp=>p.var != v.id||p.tag.any λj=>(ms.getD j 0).testBit i)=true:=by kernel_rfl):
  OpOk P ops ms c V A G i ⟨some d,.alloc T,ty,pos,ax,none⟩:=uO l hl hv hT cn hc hag hn hz lB hp hst hno hal
theorem fP {S f sz:Nat} {fs:List Fd} {q:Pred} (off n:Nat) (ag:Bool) (h:Has ms G i x (cV sz true (pS fs)):=by exact hs) (hq:AI ag (sX fs off n)=some q:=by exact rfl) (hp:Post G i (cV n ag q):=by exact pt rfl) (hn:n≠0:=by decide) (hf:∀b o w,(Instr.fieldAt S (.pointer (some ⟨b,o,none⟩)) f).run P w=.ok (.pointer (some ⟨b,o+off,none⟩)) w:=by exactλ_ _ _=>by kernel_rfl)
  (hA:(A.all λq=>q.tag != some i)=true:=by kernel_rfl):OpOk P ops ms c V A G i ⟨some d,.fieldAddr S x f,ty,pos,ax,none⟩:=
 bz rfl rfl rfl (.inr hA) hp λL β a w hI hd=>by
  have hr:=h.spec hI hd
  obtain⟨b,o,cs,e,_⟩:=hr.out
  refine⟨.pointer (some ⟨b,o+off,none⟩),w,?_,Below.refl _ _,λw' he=>?_⟩
  ·show(do pure (Next.value (<-Instr.fieldAt S (a.eval x) f))).run P w=_
   rw[e,Sem.run_bind,hf]
   rfl
  ·obtain⟨b',o',cs',e',hl,hc,hp'⟩:=hr w' he
   rw[e]at e'
   injection e' with e'
   injection e' with e'
   injection e' with e1 e2
   subst e1 e2
   obtain⟨ds,e3,hds⟩:=hp'
   have e4:=cJ (show ai true cs'=ai true ds from e3)
   subst e4
   cases hs:sX fs off n with
   |none=>rw[hs]at hq; cases ag<;>cases hq
   |some l=>
    rw[hs]at hq
    have hk:=xM hs hds
    have hlen:=hk.2
    rw[if_neg hn]at hlen
    refine⟨b,o+off,(cs'.drop off).take n,rfl,by rw[List.length_take,List.length_drop]; omega,λj u hj=>?_,xx hq hk.1⟩
    rw[List.getElem?_take]at hj
    split at hj
    ·rw[List.getElem?_drop]at hj
     rw[Nat.add_assoc]
     exact hc _ _ hj
    ·cases hj
variable {f:FuncId} {ts:Array TypeId} {p1 q1:Pred}
theorem oZ (eR:φ->∀M w v1,da M w->aN M (λw=>p1 w v1) w->Calls P f #[v1] w (bX M p w)) (h1:Has ms G i x q1:=by exact hs) (c1:∀w v,q1 w v->p1 w v:=by exact ic) (hp:Post G i p:=by exact pt rfl) (hφ:φ:=by first|omega|trivial) (hf:aC P f:=by exactλ_ _=>by kernel_rfl):
  OpOk P ops ms c V A G i ⟨some d,.call ⟨.value (.func f),#[x],ts⟩,ty,pos,ax,none⟩:=sC hf (h1.imp c1) hp (eR hφ)
theorem mH {p2 q2:Pred} (eR:φ->∀M w v1 v2,da M w->aN M (λw=>p1 w v1) w->aN M (λw=>p2 w v2) w->Calls P f #[v1,v2] w (bX M p w)) (h1:Has ms G i x q1:=by exact hs) (c1:∀w v,q1 w v->p1 w v:=by exact ic) (h2:Has ms G i y q2:=by exact hs) (c2:∀w v,q2 w v->p2 w v:=by exact ic) (hp:Post G i p:=by exact pt rfl) (hφ:φ:=by first|omega|trivial) (hf:aC P f:=by exactλ_ _=>by kernel_rfl):
  OpOk P ops ms c V A G i ⟨some d,.call ⟨.value (.func f),#[x,y],ts⟩,ty,pos,ax,none⟩:=lX hf (h1.imp c1) (h2.imp c2) hp (eR hφ)
end
section
variable {P:Program} {Q:Exit->Act->World->Prop} {c:bO} {V:List Vr} {G:List aK} {a:Act} {w:World}
end
end Wx
