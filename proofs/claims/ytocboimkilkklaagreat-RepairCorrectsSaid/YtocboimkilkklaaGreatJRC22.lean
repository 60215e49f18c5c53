import Derived.Test.YtocboimkilkklaaGreatCRCAuto
import Derived.OrdersIn
import Derived.LoopNIn
import Derived.RangeFuncCalls
import Derived.TacticsIn
namespace Wx
open Go Go.RowKit
def R3 (P:Program) (E:TypeId) (n:Nat):Bool:=match P.info? E with
 |some i=>Nat.beq i.size n
 |none=>false
variable {P:Program} {n:Nat}
theorem sO {E:TypeId} (h:R3 P E n=true) (w:World):(Go.sizeOf E).run P w=.ok n w:=by
 unfold R3 at h
 split at h
 ·rename_i i hi
  have:=Nat.eq_of_beq_eq_true h
  subst this
  simp[Go.sizeOf,typeInfo,hi]
 ·cases h
def J7 (P:Program) (T:TypeId) (ag:Bool) (n:Nat):Bool:=R3 P T n&&((ag||Nat.beq n 1)&&match P.underlying T with
 |some (.struct _)|some (.array _ _)=>ag
 |some _=>!ag
 |none=>false)
variable {T:TypeId} {ag:Bool}
theorem cV (h:J7 P T ag n=true):Ty P T ag n:=by
 unfold J7 at h
 rw[Bool.and_eq_true,Bool.and_eq_true]at h
 obtain⟨h1,h2,h3⟩:=h
 refine⟨λw=>?_,sO h1,λe=>?_⟩
 ·cases hu:P.underlying T with
  |none=>rw[hu]at h3; cases h3
  |some u=>
   rw[hu]at h3
   have hr:=run_underlying hu w
   simp only[isAgg,Sem.run_bind,hr,Result.andThen_ok]
   cases u<;>simp at h3<;>subst h3<;>rfl
 ·subst e; rw[Bool.false_or]at h2; exact Nat.eq_of_beq_eq_true h2
class Bw (P:Program) (T:TypeId) (ag:outParam Bool) (n:outParam Nat):Prop where
 ok:Ty P T ag n
def Pj (P:Program) (T:TypeId) (sz:Nat):Bool:=match P.underlying T with
 |some (.slice E)=>R3 P E sz
 |_=>false
variable {sz:Nat}
theorem yY (h:Pj P T sz=true):∃E,mw P T E sz:=by
 unfold Pj at h
 split at h
 ·rename_i E hE; exact⟨E,hE,sO h⟩
 ·cases h
def K5 (P:Program) (T:TypeId):Bool:=match P.underlying T with
 |some (.slice _)=>true
 |_=>false
theorem DT (h:K5 P T=true):∃E,P.underlying T=some (.slice E):=by
 unfold K5 at h
 split at h
 ·rename_i E hE; exact⟨E,hE⟩
 ·cases h
def Nx (P:Program) (T:TypeId) (len sz:Nat):Bool:=match P.underlying T with
 |some (.array n E)=>Nat.beq n len&&R3 P E sz
 |_=>false
theorem yT {len:Nat} (h:Nx P T len sz=true) {b off:Nat} {m:Int} (h0:0<=m) (h1:m<len) (w:World):(Instr.indexAt T (.pointer (some ⟨b,off,none⟩)) (.int .i64 m)).run P w=.ok (.pointer (some ⟨b,off+m.toNat*sz,none⟩)) w:=by
 unfold Nx at h
 split at h
 ·rename_i n E hE
  rw[Bool.and_eq_true]at h
  have e:=Nat.eq_of_beq_eq_true h.1
  subst e
  have hu:(underlying T).run P w=.ok (.array n E) w:=run_underlying hE w
  simp only[Instr.indexAt,asIntOf,pure_bind,Sem.run_bind,hu,Result.andThen_ok,Instr.sureAddr]
  rw[if_pos ⟨h0,h1⟩]
  simp only[Sem.run_bind,sO h.2,Result.andThen_ok,Sem.run_pure,Addr.add_mid]
 ·cases h
variable {p:Pred}
theorem vF (h:Fits n ag p:=by
 first
 |exact lB
 |exact pD
 |exact fits_int _
 |exact fits_bool _
 |exact bg _
 |exact cg _
 |exact tJ _ _ _
 |exact mI
 |exact zZ _
 |exact jE (λ_=>lB) (by first|rfl|omega|(simp; omega))
 |exact jE (λ_=>pD) (by first|rfl|omega|(simp; omega))
 |exact jZ (by repeat' (first|exact trivial|exact lB|exact pD|exact fits_int _|exact fits_bool _|exact tJ _ _ _|exact mI|exact zZ _|refine⟨?_,?_⟩)) rfl):Fits n ag p:=h
theorem Ct (h:au p:=by
 first
 |exact oJ
 |exact oI
 |exact bu _
 |exact uk λ_=>oJ
 |exact uk λ_=>oI
 |exact eC _
 |exact eD _
 |exact iT oJ (bu _)
 |exact iT oI (bu _)
 |exact iT (eC _) (bu _)
 |exact iT (eD _) (bu _)):au p:=h
variable {q:Pred}
theorem sA (h:∀w v,p w v->q w v:=by
 first
 |exactλ_ _ h=>h
 |exact uz (by omega)
 |exact AW (by omega)
 |exact mc.pV (by repeat' (first|exact mc.z|refine mc.c (by omega) ?_))
 |exactλ_ _ h=>h
 |exactλ_ _ h=>h.2):∀w v,p w v->q w v:=h
variable {i:Nat}
theorem Has.VK {ms:List Nat} {G:List bf} {x:Operand} {φ ψ:Prop} (h:Has ms G i x (nW (φ/\ψ) q)) (hφ:φ):Has ms G i x (nW ψ q):=
 h.imp λ_ _ k=>⟨λhψ=>k.1 ⟨hφ,hψ⟩,λhψ=>k.2 λhh=>hψ hh.2⟩
theorem We {A:List Al} {al:Al} (h:Kj i A=some al) (hn:¬al.cond) (hu:(A.filter λq=>q.tag==some i).length=1):vw A i:=by
 obtain⟨⟨k,hk⟩,ht⟩:=pc h
 exact .at_ k hk ht hu hn
def tm:Nat->Nat->List Nat
 |0,_=>[]
 |n+1,k=>k::tm n (2*k+1)
section
variable {P:Program} {ops:Array Oper} {ms:List Nat} {c:dS} {V:List Vr} {A:List Al} {G:List bf} {i:Nat}{d:Nat} {x y z:Operand} {ty:TypeId} {pos:String} {aJ:Array Edge}{T:TypeId} {sz n:Nat} {agg:Bool} {f:Nat->Pred}
theorem M3 (h:Has ms G i x (bR sz agg n f)) (hp:Post G i (pI (n:Int))) (ht:K5 P T=true):
  OpOk P ops ms c V A G i ⟨some d,.call ⟨.builtin .len,#[x],#[T]⟩,ty,pos,aJ,none⟩:=(DT ht).elim λ_ hE=>uw h hE hp
theorem lI {m:Int} (k:Nat) (h:Has ms G i x (bR sz agg n f)) (hy:Has ms G i y (pI m)) (hm:m=(k:Int)) (hp:Post G i (dU sz agg (f k))) (hk:k<n) (ht:Pj P T sz=true) (hA:(A.all λq=>q.tag != some i)=true):
  OpOk P ops ms c V A G i ⟨some d,.indexAddr T x y,ty,pos,aJ,none⟩:=by
 obtain⟨E,hE⟩:=yY ht
 subst hm
 exact mZ h hy hE (by omega) (by omega) hA (by rw[Int.toNat_natCast]; exact hp)
theorem iU {p:Pred} (h:Has ms G i x (dU sz agg p)) (hp:Post G i p) (ht:J7 P T agg sz=true) (hfit:Fits sz agg p):OpOk P ops ms c V A G i ⟨some d,.load T x,ty,pos,aJ,none⟩:=
 jt h (cV ht) hfit hp
variable {cb b2:Bool}
theorem MX (h:Has ms G i x (pB cb)) (hy:Has ms G i y (nW (cb=true) (pB b2))) (hz:Has ms G i z (pB false)) (hp:Post G i (pB (cb&&b2))):OpOk P ops ms c V A G i ⟨some d,.pick x y z,ty,pos,aJ,none⟩:=
 yJ h (λe=>(hy.Pg e).imp λ_ _ k=>by rw[e]; exact k) (λe=>hz.imp λ_ _ k=>by rw[e]; exact k) hp
theorem RO (h:Has ms G i x (pB cb)) (hy:Has ms G i y (pB true)) (hz:Has ms G i z (nW (cb=false) (pB b2))) (hp:Post G i (pB (cb||b2))):OpOk P ops ms c V A G i ⟨some d,.pick x y z,ty,pos,aJ,none⟩:=
 yJ h (λe=>hy.imp λ_ _ k=>by rw[e]; exact k) (λe=>(hz.Pg e).imp λ_ _ k=>by rw[e]; exact k) hp
end
end Wx

namespace Wx
open Go Go.RowKit
section
variable {P:Program} {ops:Array Oper} {ms:List Nat} {c:dS} {V:List Vr} {A:List Al} {G:List bf} {i:Nat}{d:Nat} {x y z:Operand} {ty:TypeId} {pos:String} {aJ:Array Edge}{p:Pred}
theorem hs (h:Has ms G i x p:=by
 first
 |exact look rfl
 |exact .const _
 |exact .func _):Has ms G i x p:=h
theorem hg (h:Has ms G i x p:=by
 first
 |exact .const _
 |exact .func _
 |exact Has.Pg (look rfl) (by assumption)
 |exact Has.Pg (look rfl) (And.left (by assumption))
 |exact Has.VK (look rfl) (by assumption)
 |exact look rfl):Has ms G i x p:=h
variable {φ:Prop}
theorem pg (hc:φ) (h:iL i G=some (nW φ p)):Post G i p:=Vx hc h
variable {o:Oper}
theorem mv (h:OpOk P ops ms c V A G i o:=by
 first
 |exact bL hs (pt rfl)
 |exact dJ hs (pt rfl)):OpOk P ops ms c V A G i o:=h
theorem yn (hc:φ) {o:Oper} (h:φ->OpOk P ops ms c V A G i o:=by
 intro hc
 first
 |exact bL hg (pg hc rfl)
 |exact dJ hg (pg hc rfl)):OpOk P ops ms c V A G i o:=h hc
theorem ld (h:OpOk P ops ms c V A G i o:=by
 first
 |exact o_load rfl rfl rfl rfl (pt rfl) (cV (by kernel_rfl))
 |exact mX rfl rfl rfl rfl (by kernel_rfl) rfl Bw.ok (pM rfl) trivial (pt rfl) rfl
 |exact iU hs (pt rfl) (by kernel_rfl) vF):OpOk P ops ms c V A G i o:=h
theorem rj (hc:φ) {o:Oper} (h:φ->OpOk P ops ms c V A G i o:=by
 intro hc
 first
 |exact o_load rfl rfl rfl rfl (pg hc rfl) (cV (by kernel_rfl))
 |exact mX rfl rfl rfl rfl (by kernel_rfl) rfl Bw.ok (pM rfl) (by first|exact trivial|exact hc) (pg hc rfl) rfl
 |exact iU hg (pg hc rfl) (by kernel_rfl) vF):OpOk P ops ms c V A G i o:=h hc
theorem bn (h:OpOk P ops ms c V A G i o:=by
 first
 |exact D9 hs hs (pt rfl)
 |exact D8 hs hs (pt rfl)
 |exact D6 hs hs (pt rfl)
 |exact D5 hs hs (pt rfl)
 |exact MZ hs hs (pt rfl)
 |exact M7 hs hs (pt rfl)
 |exact D3 hs hs (pt rfl)
 |exact Eb hs hs (pt rfl)
 |exact Ea hs hs (pt rfl)):OpOk P ops ms c V A G i o:=h
theorem Ad (hc:φ) {o:Oper} (h:φ->OpOk P ops ms c V A G i o:=by
 intro hc
 first
 |exact D9 hg hg (pg hc rfl)
 |exact D8 hg hg (pg hc rfl)
 |exact D6 hg hg (pg hc rfl)
 |exact D5 hg hg (pg hc rfl)
 |exact MZ hg hg (pg hc rfl)
 |exact M7 hg hg (pg hc rfl)
 |exact D3 hg hg (pg hc rfl)
 |exact Eb hg hg (pg hc rfl)
 |exact Ea hg hg (pg hc rfl)):OpOk P ops ms c V A G i o:=h hc
theorem Su (hc:φ) {o:Oper} (h:φ->OpOk P ops ms c V A G i o:=by
 intro hc
 first
 |exact OZ hg (pg hc rfl)):OpOk P ops ms c V A G i o:=h hc
theorem ln (h:OpOk P ops ms c V A G i o:=by
 first
 |exact M3 hs (pt rfl) (by kernel_rfl)):OpOk P ops ms c V A G i o:=h
theorem Ss (hc:φ) {o:Oper} (h:φ->OpOk P ops ms c V A G i o:=by
 intro hc
 first
 |exact M3 hg (pg hc rfl) (by kernel_rfl)):OpOk P ops ms c V A G i o:=h hc
theorem fa (h:OpOk P ops ms c V A G i o:=by
 first
 |exact D4 rfl rfl rfl rfl rfl (λ_ _=>by kernel_rfl) rfl (by kernel_rfl) (by kernel_rfl)
 |exact xe rfl rfl rfl rfl rfl rfl (λ_ _=>by kernel_rfl) rfl trivial (by kernel_rfl) (by kernel_rfl)
 |exact D7 rfl rfl rfl rfl rfl hs (λ_ _=>by kernel_rfl) rfl (by kernel_rfl) (by kernel_rfl)
 |exact xg rfl rfl rfl rfl rfl rfl hs (λ_ _=>by kernel_rfl) rfl trivial (by kernel_rfl) (by kernel_rfl)):OpOk P ops ms c V A G i o:=h
theorem KI (hc:φ) {o:Oper} (h:φ->OpOk P ops ms c V A G i o:=by
 intro hc
 first
 |exact D4 rfl rfl rfl rfl rfl (λ_ _=>by kernel_rfl) rfl (by kernel_rfl) (by kernel_rfl)
 |exact xe rfl rfl rfl rfl rfl rfl (λ_ _=>by kernel_rfl) rfl (by first|exact trivial|exact hc) (by kernel_rfl) (by kernel_rfl)
 |exact D7 rfl rfl rfl rfl rfl hg (λ_ _=>by kernel_rfl) rfl (by kernel_rfl) (by kernel_rfl)
 |exact xg rfl rfl rfl rfl rfl rfl hg (λ_ _=>by kernel_rfl) rfl (by first|exact trivial|exact hc) (by kernel_rfl) (by kernel_rfl)):OpOk P ops ms c V A G i o:=h hc
theorem ix (h:OpOk P ops ms c V A G i o:=by
 first
 |exact lI _ hs hs rfl (pt rfl) (by omega) (by kernel_rfl) (by kernel_rfl)
 |exact lI _ hs hs (Int.toNat_of_nonneg (by omega)).symm (pt rfl) (by omega) (by kernel_rfl) (by kernel_rfl)):OpOk P ops ms c V A G i o:=h
theorem Sr (hc:φ) {o:Oper} (h:φ->OpOk P ops ms c V A G i o:=by
 intro hc
 first
 |exact lI _ hg hg rfl (pg hc rfl) (by omega) (by kernel_rfl) (by kernel_rfl)
 |exact lI _ hg hg (Int.toNat_of_nonneg (by omega)).symm (pg hc rfl) (by omega) (by kernel_rfl) (by kernel_rfl)):OpOk P ops ms c V A G i o:=h hc
theorem ext (h:OpOk P ops ms c V A G i o:=by
 first
 |exact js hs Qg (pt rfl)
 |exact js hs Qh (pt rfl)
 |exact js hs Qi (pt rfl)
 |exact js hs Qj (pt rfl)
 |exact js hs Qk (pt rfl)):OpOk P ops ms c V A G i o:=h
theorem pk (h:OpOk P ops ms c V A G i o:=by
 first
 |exact MX hs hs hs (pt rfl)
 |exact RO hs hs hs (pt rfl)):OpOk P ops ms c V A G i o:=h
theorem X2 (hc:φ) {o:Oper} (h:φ->OpOk P ops ms c V A G i o:=by
 intro hc
 first
 |exact MX hg hg hg (pg hc rfl)
 |exact RO hg hg hg (pg hc rfl)):OpOk P ops ms c V A G i o:=h hc
theorem gD (h:OpOk P ops ms c V A G i o:=by
 first
 |exact pW rfl rfl hs rfl rfl (cV (by kernel_rfl)) vF (by kernel_rfl)
 |exact xh rfl rfl rfl rfl (by kernel_rfl) rfl hs Bw.ok (Gh rfl) rfl (by kernel_rfl) trivial vF rfl (by kernel_rfl)
 |exact xh rfl rfl rfl rfl (by kernel_rfl) rfl hs Bw.ok (Gi rfl) rfl (by kernel_rfl) trivial vF rfl (by kernel_rfl)):OpOk P ops ms c V A G i o:=h
theorem bo (h:OpOk P ops ms c V A G i o:=by
 first
 |exact RM rfl rfl rfl hs rfl vF (by kernel_rfl) (by kernel_rfl) (by kernel_rfl)):OpOk P ops ms c V A G i o:=h
variable {j:Nat} {b cb:Bool}
theorem gd {op:Op} {dst:Option Nat} (h:cb=b->OpOk P ops ms c V A G i ⟨dst,op,ty,pos,aJ,none⟩) (hq:iL j G=some (pB cb):=by exact rfl) (hA:¬cb=b->vw A i:=by intro hn; first|exact .none rfl|exact We rfl hn (by kernel_rfl)) (hp:¬cb=b->Post G i (bY undef):=by intro hn; first|exact Xj hn rfl|exact .none rfl)
  (hj:(G.all λe=>e.tag != some j||((ms.getD i 0).testBit j&&ij ms i e.till))=true:=by kernel_rfl) (hb:(V.all λx=>(x.born != some i&&x.dead != some i)&&x.st.all λq=>q.1 != i)=true:=by kernel_rfl):OpOk P ops ms c V A G i ⟨dst,op,ty,pos,aJ,some (j,b)⟩:=Vq hq h hA hp hj hb
theorem Sq [Decidable φ] {op:Op} {dst:Option Nat} (h:φ/\cb=b->OpOk P ops ms c V A G i ⟨dst,op,ty,pos,aJ,none⟩) (hq:iL j G=some (nW φ (pB cb)):=by exact rfl) (hA:¬(φ/\cb=b)->vw A i:=by intro hn; first|exact .none rfl|exact We rfl hn (by kernel_rfl)) (hp:¬(φ/\cb=b)->Post G i (bY undef):=by intro hn; first|exact Xj hn rfl|exact .none rfl)
  (hj:(G.all λe=>e.tag != some j||((ms.getD i 0).testBit j&&ij ms i e.till))=true:=by kernel_rfl) (hb:(V.all λx=>(x.born != some i&&x.dead != some i)&&x.st.all λq=>q.1 != i)=true:=by kernel_rfl):OpOk P ops ms c V A G i ⟨dst,op,ty,pos,aJ,some (j,b)⟩:=RN hq h hA hp hj hb
variable {T:TypeId} {v:Vr}
theorem me (l:List Zl) (hv:BA i V=some v:=by exact rfl) (hT:v.T=T:=by exact rfl) (cI:v.kd=.ptr:=by exact rfl) (hc:v.c0=pv (pS (l.map Zl.fd)):=by exact rfl) (Af:v.agg=true:=by exact rfl)
  (hz:∀w,(zeroValue T).run P w=.ok (.agg (l.flatMap Zl.cs).toArray) w:=by exactλ_=>by kernel_rfl) (hl:(l.flatMap Zl.cs).length=v.n:=by exact rfl) (hst:((v.st.all λq=>(ms.getD q.1 0).testBit i)&&V.all λy=>y.dead != some i)=true:=by kernel_rfl) (hno:(G.all λe=>e.tag != some i)=true:=by kernel_rfl) (fo:(A.all λp=>p.var != v.id||p.tag.any λj=>(ms.getD j 0).testBit i)=true:=by kernel_rfl):
  OpOk P ops ms c V A G i ⟨some d,.alloc T,ty,pos,aJ,none⟩:=Lu l hv hT cI hc Af hz hl hst hno fo
theorem OP (l:Zl) {z:Value} (hl:l.cs=[z]:=by exact rfl) (hv:BA i V=some v:=by exact rfl) (hT:v.T=T:=by exact rfl) (cI:v.kd=.ptr:=by exact rfl) (hc:v.c0=pv l.fd.p:=by exact rfl) (Af:v.agg=false:=by exact rfl) (hn:v.n=1:=by exact rfl)
  (hz:∀w,(zeroValue T).run P w=.ok z w:=by exactλ_=>by kernel_rfl) (yB:z.cells=[z].toArray:=by exact rfl) (hp:∀w,l.fd.p w z:=by exactλ_=>rfl) (hst:((v.st.all λq=>(ms.getD q.1 0).testBit i)&&V.all λy=>y.dead != some i)=true:=by kernel_rfl) (hno:(G.all λe=>e.tag != some i)=true:=by kernel_rfl) (fo:(A.all λp=>p.var != v.id||p.tag.any λj=>(ms.getD j 0).testBit i)=true:=by kernel_rfl):
  OpOk P ops ms c V A G i ⟨some d,.alloc T,ty,pos,aJ,none⟩:=I5 l hl hv hT cI hc Af hn hz yB hp hst hno fo
theorem fP {S f sz:Nat} {fs:List Fd} {q:Pred} (off n:Nat) (ag:Bool) (h:Has ms G i x (dU sz true (pS fs)):=by exact hs) (hq:FO ag (vV fs off n)=some q:=by exact rfl) (hp:Post G i (dU n ag q):=by exact pt rfl) (hn:n≠0:=by decide) (hf:∀b o w,(Instr.fieldAt S (.pointer (some ⟨b,o,none⟩)) f).run P w=.ok (.pointer (some ⟨b,o+off,none⟩)) w:=by exactλ_ _ _=>by kernel_rfl)
  (hA:(A.all λq=>q.tag != some i)=true:=by kernel_rfl):OpOk P ops ms c V A G i ⟨some d,.fieldAddr S x f,ty,pos,aJ,none⟩:=
 dg rfl rfl rfl (.inr hA) hp λL β a w hI hd=>by
  have hr:=h.spec hI hd
  obtain⟨b,o,cs,e,_⟩:=hr.out
  refine⟨.pointer (some ⟨b,o+off,none⟩),w,?_,Below.refl _ _,λw' he=>?_⟩
  ·show(do pure (Next.value (<-Instr.fieldAt S (a.eval x) f))).run P w=_
   rw[e,Sem.run_bind,hf]
   rfl
  ·obtain⟨b',o',cs',e',hl,hc,hp'⟩:=hr w' he
   rw[e]at e'
   injection e' with e'
   injection e' with e'
   injection e' with e1 e2
   subst e1 e2
   obtain⟨ds,e3,hds⟩:=hp'
   have e4:=cT (show aq true cs'=aq true ds from e3)
   subst e4
   cases hs:vV fs off n with
   |none=>rw[hs]at hq; cases ag<;>cases hq
   |some l=>
    rw[hs]at hq
    have hk:=Et hs hds
    have hlen:=hk.2
    rw[if_neg hn]at hlen
    refine⟨b,o+off,(cs'.drop off).take n,rfl,by rw[List.length_take,List.length_drop]; omega,λj u hj=>?_,Ed hq hk.1⟩
    rw[List.getElem?_take]at hj
    split at hj
    ·rw[List.getElem?_drop]at hj
     rw[Nat.add_assoc]
     exact hc _ _ hj
    ·cases hj
variable {f:FuncId} {ts:Array TypeId} {p1 q1:Pred}
theorem su (jx:φ->∀w v1,p1 w v1->Calls P f #[v1] w (ew p w)) (h1:Has ms G i x q1:=by exact hs) (c1:∀w v,q1 w v->p1 w v:=by exact sA) (hp:Post G i p:=by exact pt rfl) (hφ:φ:=by first|omega|trivial) (hn:au p:=by exact Ct) (hf:aI P f:=by exactλ_ _=>by kernel_rfl):
  OpOk P ops ms c V A G i ⟨some d,.call ⟨.value (.func f),#[x],ts⟩,ty,pos,aJ,none⟩:=gB hf hn (h1.imp c1) hp (jx hφ)
variable {p2 q2:Pred}
theorem By (jx:φ->∀w v1 v2,p1 w v1->p2 w v2->Calls P f #[v1,v2] w (ew p w)) (h1:Has ms G i x q1:=by exact hs) (c1:∀w v,q1 w v->p1 w v:=by exact sA) (h2:Has ms G i y q2:=by exact hs) (c2:∀w v,q2 w v->p2 w v:=by exact sA) (hp:Post G i p:=by exact pt rfl) (hφ:φ:=by first|omega|trivial) (hn:au p:=by exact Ct) (hf:aI P f:=by exactλ_ _=>by kernel_rfl):
  OpOk P ops ms c V A G i ⟨some d,.call ⟨.value (.func f),#[x,y],ts⟩,ty,pos,aJ,none⟩:=cD hf hn (h1.imp c1) (h2.imp c2) hp (jx hφ)
theorem Dq (jx:φ->∀M w v1,dz M w->aP M (λw=>p1 w v1) w->Calls P f #[v1] w (bE M p w)) (h1:Has ms G i x q1:=by exact hs) (c1:∀w v,q1 w v->p1 w v:=by exact sA) (hp:Post G i p:=by exact pt rfl) (hφ:φ:=by first|omega|trivial) (hf:aI P f:=by exactλ_ _=>by kernel_rfl):
  OpOk P ops ms c V A G i ⟨some d,.call ⟨.value (.func f),#[x],ts⟩,ty,pos,aJ,none⟩:=xk hf (h1.imp c1) hp (jx hφ)
theorem zg (jx:φ->∀M w v1 v2,dz M w->aP M (λw=>p1 w v1) w->aP M (λw=>p2 w v2) w->Calls P f #[v1,v2] w (bE M p w)) (h1:Has ms G i x q1:=by exact hs) (c1:∀w v,q1 w v->p1 w v:=by exact sA) (h2:Has ms G i y q2:=by exact hs) (c2:∀w v,q2 w v->p2 w v:=by exact sA) (hp:Post G i p:=by exact pt rfl) (hφ:φ:=by first|omega|trivial) (hf:aI P f:=by exactλ_ _=>by kernel_rfl):
  OpOk P ops ms c V A G i ⟨some d,.call ⟨.value (.func f),#[x,y],ts⟩,ty,pos,aJ,none⟩:=qL hf (h1.imp c1) (h2.imp c2) hp (jx hφ)
end
section
variable {P:Program} {Q:Exit->Act->World->Prop} {c:dS} {V:List Vr} {G:List bf} {a:Act} {w:World}
theorem mg {id:Nat} {l:List Oper} {V1 V2:List Vr} {G1 G2:List bf} {y:Code} (h:Inv c V [] G none_ a w) (n:Nat) (nv:List Vr) (A1:List Al) (ne:List bf) (hV:rQ nv V V1) (hG:kA ne G G1) (hs:mm P l.toArray (tm n 0) c V1 A1 G1 0 l) (kV:dX V1 V2) (kG:az G1 G2) (hk:∀a w,Inv c V2 [] G2 none_ a w->y.wp P Q a w) (hn:iF nv A1 ne=true:=by kernel_rfl) (hb:oa c.N l (tm n 0) V1 A1 G1=true:=by kernel_rfl):(Code.seq (Code.region id l.toArray false) y).wp P Q a w:=
 RZ h nv A1 ne hV hG hn (tm n 0) hb hs kV kG hk
end
end Wx

namespace Wx
open Go Go.RowKit
section
variable {Fe:Fence} {n:Nat} {P:Program} {ops:Array Oper} {Q:Exit->Act->World->Prop}
theorem C6 (F:List Nat) (hf:E6 ops=true) (hw:nt ops F=true) (I:(Nat->Bool)->Act->World->Prop)
  (hstep:∀i∈F,∀o,ops[i]?=some o->∀L a w,I L a w->L i=false->(∀e∈o.after,Region.binds .any e=true->L e.on=true)->wpOpIn Fe n P ops Q i (I (λj=>if j=i then true else L j)) a w)
  (tS:∀L a w,I L a w->(∀i∈F,L i=true)->∀fuel,((List.range ops.size).filter λj=>!((gE ops.size F).getD j true)).length<=fuel->wpAnyIn Fe n P .any ops Q fuel (gE ops.size F) a w):
  ∀(fuel:Nat) (listed:Array Bool) (a:Act) (w:World),si ops.size F listed->qA ops listed->I (λj=>listed.getD j false) a w ->
   ((List.range ops.size).filter λj=>!(listed.getD j true)).length<=fuel->wpAnyIn Fe n P .any ops Q fuel listed a w:=by
 have all:∀(fuel:Nat) (listed:Array Bool) (a:Act) (w:World),si ops.size F listed->I (λj=>listed.getD j false) a w ->
   ((List.range ops.size).filter λj=>!(listed.getD j true)).length<=fuel->(∀i∈F,listed.getD i false=true)->wpAnyIn Fe n P .any ops Q fuel listed a w:=by
  intro fuel listed a w hr hI hc hall
  have e:listed=gE ops.size F:=by
   apply Array.ext
   ·rw[hr.1]; simp[gE]
   ·intro i h1 h2
    have hi:i<ops.size:=by rw[<-hr.1]; exact h1
    simp only[gE,List.getElem_toArray,List.getElem_map,List.getElem_range]
    cases hF:F.contains i with
    |true=>
     have:=hall i (by simpa using hF)
     simpa [h1] using this
    |false=>
     have:=hr.2 i hi hF
     simpa [h1] using this
  have hI':=tS _ a w hI hall
  rw[<-e]at hI'
  exact hI' fuel hc
 have hlt:∀j∈F,j<ops.size:=by
  intro j hj
  simp only[nt,Bool.and_eq_true,List.all_eq_true,decide_eq_true_eq]at hw
  exact hw.1 j hj
 have GA:∀i,i<ops.size->i∈F\/∀j∈F,j∈before ops ops.size i:=by
  intro i hi
  simp only[nt,Bool.and_eq_true,List.all_eq_true,List.mem_range,Bool.or_eq_true,List.contains_iff_mem]at hw
  exact hw.2 i hi
 intro fuel
 induction fuel with
 |zero=>
  intro listed a w hr oB hI hc
  refine all 0 listed a w hr hI hc (λi hi=>?_)
  rcases Nat.lt_or_ge i ops.size with h'|h'
  ·have h0:(List.range ops.size).filter (λj=>!(listed.getD j true))=[]:=List.eq_nil_of_length_eq_zero (by omega)
   have:=List.filter_eq_nil_iff.1 h0 i (List.mem_range.2 h')
   have hsz:i<listed.size:=by rw[hr.1]; exact h'
   simpa [hsz] using this
  ·exfalso
   have:=hlt i hi
   omega
 |succ fuel ih=>
  intro listed a w hr oB hI hc
  by_cases hall:∀i∈F,listed.getD i false=true
  ·exact all _ listed a w hr hI hc hall
  ·have hx:∃i∈F,¬listed.getD i false=true:=by
    apply Classical.byContradiction
    intro h
    exact hall (λi hi=>Classical.byContradiction λh'=>h ⟨i,hi,h'⟩)
   obtain⟨k,hk,Q4⟩:=hx
   have hks:=hlt k hk
   have Oi:listed.getD k true=false:=by
    have:k<listed.size:=by rw[hr.1]; exact hks
    simp[this]at Q4 ⊢
    exact Q4
   refine⟨λh=>absurd h (uG hf hks Oi hr.1),λi hi=>?_⟩
   obtain⟨H6,o,ho,hpre⟩:=mem_ready.1 hi
   have H7:i<ops.size:=by
    rcases Nat.lt_or_ge i ops.size with h'|h'
    ·exact h'
    ·rw[Array.getElem?_eq_none h']at ho; cases ho
   have QY:i∈F:=by
    apply Classical.byContradiction
    intro hn
    have Fg:=(GA i H7).resolve_left hn
    apply hall
    intro j hj
    refine nY oB ops.size i (λo' wU e he hb=>?_) j (Fg j hj)
    rw[ho]at wU
    injection wU with wU
    subst wU
    exact hpre e he hb
   have hno:listed.getD i false=false:=by
    have hs:i<listed.size:=by rw[hr.1]; exact H7
    simp[hs]at H6 ⊢
    exact H6
   refine wpOpIn_mono (λa' w' h'=>ih _ a' w' ⟨by rw[Array.size_setIfInBounds]; exact hr.1,λj hj hF=>?_⟩ (oB.set hi) ?_ ?_) (hstep i QY o ho _ a w hI hno (λe he hb=>hpre e he hb))
   ·have hij:i≠j:=by
     rintro rfl
     have:F.contains i=true:=by simpa using QY
     rw[this]at hF; cases hF
    have:=hr.2 j hj hF
    simpa [Array.getElem?_setIfInBounds_ne hij] using this
   ·have e:(λj=>(listed.setIfInBounds i true).getD j false)=(λj=>if j=i then true else listed.getD j false):=by
     funext j
     by_cases hij:j=i
     ·subst hij
      have:j<listed.size:=by rw[hr.1]; exact H7
      simp[this]
     ·simp[Array.getElem?_setIfInBounds_ne (Ne.symm hij),hij]
    rw[e]; exact h'
   ·have:=tA hr.1 H7 H6
    omega
theorem rH {id:Nat} {l:List Oper} (hm:P.follows .mixedOrders=true) (hok:gC l.toArray=true) (I:(Nat->Bool)->Act->World->Prop)
  {a:Act} {w:World} (h0:I (λ_=>false) a w.drew) (hstep:∀i o,l[i]?=some o->∀L a w,I L a w->L i=false->(∀j∈yN o,L j=true)->wpOpIn Fe n P l.toArray Q i (I (λj=>if j=i then true else L j)) a w)
  (tS:∀L a w,I L a w->(∀i,i<l.length->L i=true)->Q .normal a w):(Code.region id l.toArray true).wpIn Fe n P Q a w:=by
 simp only[gC,Bool.and_eq_true,decide_eq_true_eq]at hok
 obtain⟨h1,h3⟩:=hok
 have hF:gE l.toArray.size (List.range l.toArray.size)=Array.replicate l.toArray.size true:=by
  apply Array.ext
  ·simp[gE]
  ·intro i h1 h2
   have hi:i<l.length:=by simpa [gE] using h1
   simp[gE,hi]
 refine wpIn_region_any hm (C6 (List.range l.toArray.size) h1 ?_ I (λi hi o ho L a w hI hno hpre=>?_) (λL a w hI hall fuel hfl=>?_) l.toArray.size _ a _ ⟨by simp,λi hi _=>(by have hi':i<l.length:=(by simpa using hi); simp[hi'])⟩ ?_ ?_ ?_)
 ·simp only[nt,Bool.and_eq_true,List.all_eq_true,decide_eq_true_eq,List.mem_range,Bool.or_eq_true]
  exact⟨λj hj=>hj,λi hi=>.inl (by simpa using hi)⟩
 ·have wU:l[i]?=some o:=by simpa using ho
  exact hstep i o wU L a w hI hno (λj hj=>by
   simp only[yN,List.mem_map,List.mem_filter]at hj
   obtain⟨e,⟨he,hb⟩,rfl⟩:=hj
   exact hpre e (by simpa using he) hb)
 ·rw[hF]
  have hq:=tS L a w hI (λi hi=>hall i (List.mem_range.2 (by simpa using hi)))
  cases fuel with
  |zero=>exact⟨h3,hq⟩
  |succ n=>exact⟨λ_=>hq,by rw[h3]; simp⟩
 ·intro i o ho hl
  exfalso
  rcases Nat.lt_or_ge i l.toArray.size with h'|h'
  ·have h2:i<l.length:=by simpa using h'
   simp[h2]at hl
  ·have h2:l.length<=i:=by simpa using h'
   simp[h2]at hl
 ·have e:(λj=>(Array.replicate l.toArray.size false).getD j false)=(λ_=>false):=by
   funext j
   rcases Nat.lt_or_ge j l.length with h'|h'
   ·simp[h']
   ·simp[h']
  rw[e]; exact h0
 ·have:=List.length_filter_le (λj=>!((Array.replicate l.toArray.size false).getD j true)) (List.range l.toArray.size)
  rw[List.length_range]at this
  exact this
end
def B5 (ro:Option Nat):Fence:={ Fence.wide with round:=ro }
def nH (ds:List Deferred) (a:Act):Act:={ a with defers:=ds++a.defers }
def fH (o:Oper):Bool:=match o.op with
 |.defer _=>false
 |_=>true
def _root_.Go.Code.ww (ro:Option Nat) (ds:List Deferred) (P:Program) (c:Code) (Q:Exit->Act->World->Prop) (a:Act) (w:World):Prop:=
 ∀n,c.wpIn (B5 ro) n P (λe a' w'=>∃a0,a'=nH ds a0/\Q e a0 w') (nH ds a) w
theorem tB (ds:List Deferred) (a:Act):(nH ds a).eval=a.eval:=by funext x; cases x<;>rfl
theorem sC (ds:List Deferred) (a:Act) (d:Option Nat) (v:Value):(nH ds a).put d v=nH ds (a.put d v):=by cases d<;>rfl
variable {ro:Option Nat} {n:Nat} {P:Program} {w:World}
theorem wv {f:FuncId} {args:Array Value} {R:Ending->World->Prop} (h:Calls P f args w R):CallsIn (B5 ro) n P f args w R:=(callsIn_wide (n:=n)).2 h
theorem dy.Cz {ds:List Deferred} {ops:Array Oper} {Q:Exit->Act->World->Prop} {i:Nat} {o:Oper} {a:Act} {K K':Act->World->Prop} (hi:ops[i]?=some o) (hd:fH o=true) (h:dy P ops o a w K) (hK:∀a w,K a w->K' (nH ds a) w):
  wpOpIn (B5 ro) n P ops Q i K' (nH ds a) w:=by
 unfold wpOpIn
 rw[hi]
 unfold dy at h
 have hy:yielded ops (nH ds a).tmps=yielded ops a.tmps:=rfl
 simp only[hy]
 split
 ·rename_i hw
  rw[if_pos hw]at h
  unfold Oper.wpIn
  refine⟨λ_ _=>trivial,?_⟩
  rw[tB,Oper.semAt_eq _ _ _ (λc hc=>by unfold fH at hd; rw[hc]at hd; cases hd)]
  unfold Does at h
  generalize (execOp a.eval o).run P w=r at *
  cases r with
  |ok x w'=>
   cases x<;>simp only[Oper.uponIn]at h ⊢<;>first|(rw[sC]; exact hK _ _ h)|exact h.elim|skip
   case enter f args=>
    refine⟨λh=>(by cases h),CallsIn.mono (wv h) λe w'' he=>?_⟩
    obtain⟨v,rfl,hk⟩:=he
    show K' ((nH ds a).put o.dst v) w''
    rw[sC]
    exact hK _ _ hk
  |halt x w'=>cases x<;>exact h.elim
 ·rename_i hw
  rw[if_neg hw]at h
  refine⟨λ_ _=>trivial,?_⟩
  rw[sC]
  exact hK _ _ h
section
variable {ro:Option Nat} {ds:List Deferred} {P:Program} {Q:Exit->Act->World->Prop} {a:Act} {w:World} {c:dS} {V:List Vr} {A:List Al} {G:List bf}
theorem aM (h:Q .normal a w):Code.skip.ww ro ds P Q a w:=λ_=>wpIn_skip ⟨_,rfl,h⟩
variable {id:Nat}
theorem eJ (h:Q (.exit id) a w):(Code.exit id).ww ro ds P Q a w:=λ_=>wpIn_exit ⟨_,rfl,h⟩
theorem aV (h:Q .ret a w):Code.ret.ww ro ds P Q a w:=λ_=>wpIn_ret ⟨_,rfl,h⟩
variable {x y:Code}
theorem aC (h:x.ww ro ds P (Exit.then (y.ww ro ds P Q) Q) a w):(Code.seq x y).ww ro ds P Q a w:=λn=>wpIn_seq (wpIn_mono (h n) λe a' w' ⟨a0,e0,h0⟩=>by
 subst e0
 cases e with
 |normal=>exact h0 n
 |_=>exact⟨a0,rfl,h0⟩)
theorem aT (h:x.ww ro ds P (Exit.inBlock id Q) a w):(Code.block id x).ww ro ds P Q a w:=λn=>wpIn_block (wpIn_mono (h n) λe a' w' ⟨a0,e0,h0⟩=>by
 subst e0
 cases e with
 |exit m=>
  by_cases hm:m=id
  ·subst hm; simp only[Exit.inBlock,if_true]at h0 ⊢; exact⟨a0,rfl,h0⟩
  ·simp only[Exit.inBlock,hm,if_false]at h0 ⊢; exact⟨a0,rfl,h0⟩
 |_=>exact⟨a0,rfl,h0⟩)
theorem sU {s:Operand} {t:Bool} (hc:a.eval s=.bool t) (ht:t=true->x.ww ro ds P Q a w) (hf:t=false->y.ww ro ds P Q a w):(Code.cond s x y).ww ro ds P Q a w:=λn=>wpIn_cond_split (t:=t) (by rw[tB]; exact hc) (λh=>ht h n) (λh=>hf h n)
theorem Ma {ι:Type} {C:Code} (I:ι->Act->World->Prop) (μ:ι->Nat) (k0:ι) (h0:I k0 a w)
  (round:∀k a w,I k a w->C.ww ro ds P (Exit.then (λa' w'=>∃k',I k' a' w'/\μ k'<μ k) Q) a w):(Code.loop C).ww ro ds P Q a w:=by
 intro n
 refine wpIn_loop_rounds (μ k0+1) ?_
 have key:∀m k a w,I k a w->μ k<m->Code.roundsIn (B5 ro) n P C (λe a' w'=>∃a0,a'=nH ds a0/\Q e a0 w') m (nH ds a) w:=by
  intro m
  induction m with
  |zero=>intro k a w _ h; omega
  |succ m ih=>
   intro k a w hI hm
   rw[roundsIn_succ]
   refine wpIn_mono (round k a w hI n) λe a' w' ⟨a0,e0,h'⟩=>?_
   subst e0
   cases e with
   |normal=>
    obtain⟨k',hI',hlt⟩:=h'
    exact ih k' a0 w' hI' (by omega)
   |_=>exact⟨a0,rfl,h'⟩
 exact key _ k0 a w h0 (by omega)
variable {l:List Oper}
theorem JR (ms:List Nat) (hm:P.follows .mixedOrders=true) (hok:gC l.toArray=true) (rX:rC l=ms) (hwf:rM c.N l V A G=true) (MI:l.all fH=true)
  (h0:Inv c V A G none_ a w) (hs:mm P l.toArray ms c V A G 0 l) (hk:∀a w,Inv c V A G (λ_=>true) a w->Q .normal a w):(Code.region id l.toArray true).ww ro ds P Q a w:=by
 intro n
 have oD:=ud l
 rw[rX]at oD
 refine rH hm hok (λL a' w=>∃a,a'=nH ds a/\Inv c V A G L a w/\jz l L) ⟨a,rfl,?_,λi o _ h=>by cases h⟩ ?_ ?_
 ·obtain⟨β,hβ⟩:=h0
  exact⟨β,hβ.draws⟩
 ·rintro i o hi L _ w ⟨a,rfl,hI,hc⟩ hno hpre
  have tP:nw ms i L:=⟨hno,λj hj=>oD.2 L hc i o hi hpre j hj,λj hj=>by
   cases hL:L j with
   |false=>rfl
   |true=>
    cases Ib:l[j]? with
    |none=>
     have h1:=oD.1
     rw[List.getD_eq_getElem?_getD,List.getElem?_eq_none (by have:=List.getElem?_eq_none_iff.1 Ib; omega)]at hj
     simp at hj
    |some oj=>
     have:=oD.2 L hc j oj Ib (λm hm=>hc j oj Ib hL m hm) i hj
     rw[hno]at this
     cases this⟩
  have oB:jz l (upd L i):=by
   intro k ok mN hL j hj
   by_cases H8:k=i
   ·subst H8
    rw[hi]at mN
    injection mN with mN
    subst mN
    have:=hpre j hj
    unfold upd
    split
    ·rfl
    ·exact this
   ·have:=hc k ok mN (C3 hL H8) j hj
    unfold upd
    split
    ·rfl
    ·exact this
  have hop:=hs.get hi
  rw[Nat.zero_add]at hop
  exact(hop L a w hI tP (qT hwf hi)).Cz (by simpa using hi) (List.all_eq_true.1 MI o (List.mem_of_getElem? hi)) λa' w' h'=>⟨a',rfl,h',oB⟩
 ·rintro L _ w ⟨a,rfl,⟨β,hI⟩,_⟩ hall
  exact⟨a,rfl,hk a w ⟨β,hI.congr (gl hwf) hall⟩⟩
theorem Mb (hwf:rM c.N l V A G=true) (MI:l.all fH=true)
  (h0:Inv c V A G none_ a w) (hs:mm P l.toArray (aZ l.length) c V A G 0 l) (hk:∀a w,Inv c V A G (λ_=>true) a w->Q .normal a w):(Code.region id l.toArray false).ww ro ds P Q a w:=by
 intro n
 refine wpIn_region ?_
 have tm:∀k j,((aZ l.length).getD k 0).testBit j=true->j<k:=by
  intro k j h
  rcases Nat.lt_or_ge k l.length with h'|h'
  ·have e:(aZ l.length).getD k 0=2^k-1:=by simp[aZ,h']
   rw[e,Nat.testBit_two_pow_sub_one]at h
   simpa using h
  ·have e:(aZ l.length).getD k 0=0:=by simp[aZ,Nat.not_lt.2 h']
   rw[e]at h
   simp at h
 have key:∀(m i:Nat),i+m=l.length->∀(a:Act) (w:World),Inv c V A G (λj=>decide (j<i)) a w->wpOpsIn (B5 ro) n P l.toArray (λe a' w'=>∃a0,a'=nH ds a0/\Q e a0 w') (List.range' i m) (nH ds a) w:=by
  intro m
  induction m with
  |zero=>
   rintro i hi a w ⟨β,hI⟩
   exact⟨a,rfl,hk a w ⟨β,hI.congr (gl hwf) λj hj=>by simp; omega⟩⟩
  |succ m ih=>
   intro i hi a w hI
   obtain⟨o,ho⟩:∃o,l[i]?=some o:=⟨l[i]'(by omega),List.getElem?_eq_getElem (by omega)⟩
   rw[List.range'_succ,wpOpsIn_cons]
   have tP:nw (aZ l.length) i (λj=>decide (j<i)):=⟨by simp,λj hj=>by simpa using tm i j hj,λj hj=>by have:=tm j i hj; simp; omega⟩
   have hop:=hs.get ho
   rw[Nat.zero_add]at hop
   refine(hop _ a w hI tP (qT hwf ho)).Cz (by simpa using ho) (List.all_eq_true.1 MI o (List.mem_of_getElem? ho)) λa' w' h'=>ih (i+1) (by omega) a' w' ?_
   have e:upd (λj=>decide (j<i)) i=(λj=>decide (j<i+1)):=by
    funext j
    unfold upd
    by_cases h:j=i
    ·simp[h]
    ·rw[if_neg h]
     by_cases h2:j<i
     ·simp[h2]; omega
     ·simp[h2]; omega
   rw[<-e]
   exact h'
 have:=key l.length 0 (by omega) a w (by
  have e:(λj=>decide (j<0))=none_:=by funext j; simp
  rw[e]
  exact h0)
 rwa [<-List.range_eq_range',show l.length=l.toArray.size by simp]at this
end
end Wx
