import Derived.Test.YtocboimkilkklaaGreatJRF19
import Derived.OrdersIn
import Derived.LoopNIn
import Derived.RangeFuncCalls
import Derived.TacticsIn
namespace Wx
open Go Go.RowKit
def SE (P:Program) (E:TypeId) (n:Nat):Bool:=match P.info? E with
 |some i=>Nat.beq i.size n
 |none=>false
variable {P:Program} {n:Nat}
theorem th {E:TypeId} (h:SE P E n=true) (w:World):(Go.sizeOf E).run P w=.ok n w:=by
 unfold SE at h
 split at h
 ·rename_i i hi
  have:=Nat.eq_of_beq_eq_true h
  subst this
  simp[Go.sizeOf,typeInfo,hi]
 ·cases h
def KI (P:Program) (T:TypeId) (ag:Bool) (n:Nat):Bool:=SE P T n&&((ag||Nat.beq n 1)&&match P.underlying T with
 |some (.struct _)|some (.array _ _)=>ag
 |some _=>!ag
 |none=>false)
variable {T:TypeId} {ag:Bool}
theorem dX (h:KI P T ag n=true):Ty P T ag n:=by
 unfold KI at h
 rw[Bool.and_eq_true,Bool.and_eq_true]at h
 obtain⟨h1,h2,h3⟩:=h
 refine⟨λw=>?_,th h1,λe=>?_⟩
 ·cases hu:P.underlying T with
  |none=>rw[hu]at h3; cases h3
  |some u=>
   rw[hu]at h3
   have hr:=run_underlying hu w
   simp only[isAgg,Sem.run_bind,hr,Result.andThen_ok]
   cases u<;>simp at h3<;>subst h3<;>rfl
 ·subst e; rw[Bool.false_or]at h2; exact Nat.eq_of_beq_eq_true h2
class BM (P:Program) (T:TypeId) (ag:outParam Bool) (n:outParam Nat):Prop where
 ok:Ty P T ag n
def PM (P:Program) (T:TypeId) (sz:Nat):Bool:=match P.underlying T with
 |some (.slice E)=>SE P E sz
 |_=>false
variable {sz:Nat}
theorem zn (h:PM P T sz=true):∃E,oq P T E sz:=by
 unfold PM at h
 split at h
 ·rename_i E hE; exact⟨E,hE,th h⟩
 ·cases h
def Lu (P:Program) (T:TypeId):Bool:=match P.underlying T with
 |some (.slice _)=>true
 |_=>false
theorem D6 (h:Lu P T=true):∃E,P.underlying T=some (.slice E):=by
 unfold Lu at h
 split at h
 ·rename_i E hE; exact⟨E,hE⟩
 ·cases h
def PZ (P:Program) (T:TypeId) (len sz:Nat):Bool:=match P.underlying T with
 |some (.array n E)=>Nat.beq n len&&SE P E sz
 |_=>false
theorem zk {len:Nat} (h:PZ P T len sz=true) {b off:Nat} {m:Int} (h0:0<=m) (h1:m<len) (w:World):(Instr.indexAt T (.pointer (some ⟨b,off,none⟩)) (.int .i64 m)).run P w=.ok (.pointer (some ⟨b,off+m.toNat*sz,none⟩)) w:=by
 unfold PZ at h
 split at h
 ·rename_i n E hE
  rw[Bool.and_eq_true]at h
  have e:=Nat.eq_of_beq_eq_true h.1
  subst e
  have hu:(underlying T).run P w=.ok (.array n E) w:=run_underlying hE w
  simp only[Instr.indexAt,asIntOf,pure_bind,Sem.run_bind,hu,Result.andThen_ok,Instr.sureAddr]
  rw[if_pos ⟨h0,h1⟩]
  simp only[Sem.run_bind,th h.2,Result.andThen_ok,Sem.run_pure,Addr.add_mid]
 ·cases h
variable {p:Pred}
theorem wg (h:Fits n ag p:=by
 first
 |exact nQ
 |exact sQ
 |exact fits_int _
 |exact fits_bool _
 |exact aN _
 |exact bJ _
 |exact tY _ _ _
 |exact mN
 |exact Au _
 |exact nR (λ_=>nQ) (by first|rfl|omega|(simp; omega))
 |exact nR (λ_=>sQ) (by first|rfl|omega|(simp; omega))
 |exact iO (by repeat' (first|exact trivial|exact nQ|exact sQ|exact fits_int _|exact fits_bool _|exact tY _ _ _|exact mN|exact Au _|refine⟨?_,?_⟩)) rfl):Fits n ag p:=h
theorem Eb (h:aB p:=by
 first
 |exact pc
 |exact oZ
 |exact bz _
 |exact uF λ_=>pc
 |exact uF λ_=>oZ
 |exact bt _
 |exact bk _
 |exact fT pc (bz _)
 |exact fT oZ (bz _)
 |exact fT (bt _) (bz _)
 |exact fT (bk _) (bz _)):aB p:=h
variable {q:Pred}
theorem qW (h:∀w v,p w v->q w v:=by
 first
 |exactλ_ _ h=>h
 |exact Bg (by omega)
 |exact Ev (by omega)
 |exact qL.pV (by repeat' (first|exact qL.z|refine qL.c (by omega) ?_))
 |exactλ_ _ h=>h
 |exactλ_ _ h=>h.2):∀w v,p w v->q w v:=h
variable {i:Nat}
theorem Has.V3 {ms:List Nat} {G:List bI} {x:Operand} {φ ψ:Prop} (h:Has ms G i x (qw (φ/\ψ) q)) (hφ:φ):Has ms G i x (qw ψ q):=
 h.imp λ_ _ k=>⟨λhψ=>k.1 ⟨hφ,hψ⟩,λhψ=>k.2 λhh=>hψ hh.2⟩
theorem X4 {A:List Al} {al:Al} (h:KP i A=some al) (hn:¬al.cond) (hu:(A.filter λq=>q.tag==some i).length=1):BR A i:=by
 obtain⟨⟨k,hk⟩,ht⟩:=pK h
 exact .at_ k hk ht hu hn
def tm:Nat->Nat->List Nat
 |0,_=>[]
 |n+1,k=>k::tm n (2*k+1)
section
variable {P:Program} {ops:Array Oper} {ms:List Nat} {c:eL} {V:List Vr} {A:List Al} {G:List bI} {i:Nat}{d:Nat} {x y z:Operand} {ty:TypeId} {pos:String} {aZ:Array Edge}{T:TypeId} {sz n:Nat} {agg:Bool} {f:Nat->Pred}
theorem Ns (h:Has ms G i x (dK sz agg n f)) (hp:Post G i (pI (n:Int))) (ht:Lu P T=true):
  OpOk P ops ms c V A G i ⟨some d,.call ⟨.builtin .len,#[x],#[T]⟩,ty,pos,aZ,none⟩:=(D6 ht).elim λ_ hE=>uN h hE hp
theorem lQ {m:Int} (k:Nat) (h:Has ms G i x (dK sz agg n f)) (hy:Has ms G i y (pI m)) (hm:m=(k:Int)) (hp:Post G i (fL sz agg (f k))) (hk:k<n) (ht:PM P T sz=true) (hA:(A.all λq=>q.tag != some i)=true):
  OpOk P ops ms c V A G i ⟨some d,.indexAddr T x y,ty,pos,aZ,none⟩:=by
 obtain⟨E,hE⟩:=zn ht
 subst hm
 exact nc h hy hE (by omega) (by omega) hA (by rw[Int.toNat_natCast]; exact hp)
theorem jP {p:Pred} (h:Has ms G i x (fL sz agg p)) (hp:Post G i p) (ht:KI P T agg sz=true) (hfit:Fits sz agg p):OpOk P ops ms c V A G i ⟨some d,.load T x,ty,pos,aZ,none⟩:=
 jz h (dX ht) hfit hp
variable {cb b2:Bool}
theorem Sl (h:Has ms G i x (pB cb)) (hy:Has ms G i y (qw (cb=true) (pB b2))) (hz:Has ms G i z (pB false)) (hp:Post G i (pB (cb&&b2))):OpOk P ops ms c V A G i ⟨some d,.pick x y z,ty,pos,aZ,none⟩:=
 yZ h (λe=>(hy.NC e).imp λ_ _ k=>by rw[e]; exact k) (λe=>hz.imp λ_ _ k=>by rw[e]; exact k) hp
theorem VP (h:Has ms G i x (pB cb)) (hy:Has ms G i y (pB true)) (hz:Has ms G i z (qw (cb=false) (pB b2))) (hp:Post G i (pB (cb||b2))):OpOk P ops ms c V A G i ⟨some d,.pick x y z,ty,pos,aZ,none⟩:=
 yZ h (λe=>hy.imp λ_ _ k=>by rw[e]; exact k) (λe=>(hz.NC e).imp λ_ _ k=>by rw[e]; exact k) hp
end
end Wx

namespace Wx
open Go Go.RowKit
section
variable {P:Program} {ops:Array Oper} {ms:List Nat} {c:eL} {V:List Vr} {A:List Al} {G:List bI} {i:Nat}{d:Nat} {x y z:Operand} {ty:TypeId} {pos:String} {aZ:Array Edge}{p:Pred}
theorem hs (h:Has ms G i x p:=by
 first
 |exact look rfl
 |exact .const _
 |exact .func _):Has ms G i x p:=h
theorem hg (h:Has ms G i x p:=by
 first
 |exact .const _
 |exact .func _
 |exact Has.NC (look rfl) (by assumption)
 |exact Has.NC (look rfl) (And.left (by assumption))
 |exact Has.V3 (look rfl) (by assumption)
 |exact look rfl):Has ms G i x p:=h
variable {φ:Prop}
theorem pg (hc:φ) (h:jX i G=some (qw φ p)):Post G i p:=VR hc h
variable {o:Oper}
theorem mv (h:OpOk P ops ms c V A G i o:=by
 first
 |exact cg hs (pt rfl)
 |exact ee hs (pt rfl)):OpOk P ops ms c V A G i o:=h
theorem Fk (hc:φ) {o:Oper} (h:φ->OpOk P ops ms c V A G i o:=by
 intro hc
 first
 |exact cg hg (pg hc rfl)
 |exact ee hg (pg hc rfl)):OpOk P ops ms c V A G i o:=h hc
theorem ld (h:OpOk P ops ms c V A G i o:=by
 first
 |exact o_load rfl rfl rfl rfl (pt rfl) (dX (by kernel_rfl))
 |exact mZ rfl rfl rfl rfl (by kernel_rfl) rfl BM.ok (qj rfl) trivial (pt rfl) rfl
 |exact jP hs (pt rfl) (by kernel_rfl) wg):OpOk P ops ms c V A G i o:=h
theorem yF (hc:φ) {o:Oper} (h:φ->OpOk P ops ms c V A G i o:=by
 intro hc
 first
 |exact o_load rfl rfl rfl rfl (pg hc rfl) (dX (by kernel_rfl))
 |exact mZ rfl rfl rfl rfl (by kernel_rfl) rfl BM.ok (qj rfl) (by first|exact trivial|exact hc) (pg hc rfl) rfl
 |exact jP hg (pg hc rfl) (by kernel_rfl) wg):OpOk P ops ms c V A G i o:=h hc
theorem bn (h:OpOk P ops ms c V A G i o:=by
 first
 |exact Ek hs hs (pt rfl)
 |exact Ej hs hs (pt rfl)
 |exact Eh hs hs (pt rfl)
 |exact Eg hs hs (pt rfl)
 |exact Nr hs hs (pt rfl)
 |exact Nu hs hs (pt rfl)
 |exact Ee hs hs (pt rfl)
 |exact Em hs hs (pt rfl)
 |exact El hs hs (pt rfl)):OpOk P ops ms c V A G i o:=h
theorem DW (hc:φ) {o:Oper} (h:φ->OpOk P ops ms c V A G i o:=by
 intro hc
 first
 |exact Ek hg hg (pg hc rfl)
 |exact Ej hg hg (pg hc rfl)
 |exact Eh hg hg (pg hc rfl)
 |exact Eg hg hg (pg hc rfl)
 |exact Nr hg hg (pg hc rfl)
 |exact Nu hg hg (pg hc rfl)
 |exact Ee hg hg (pg hc rfl)
 |exact Em hg hg (pg hc rfl)
 |exact El hg hg (pg hc rfl)):OpOk P ops ms c V A G i o:=h hc
theorem Yk (hc:φ) {o:Oper} (h:φ->OpOk P ops ms c V A G i o:=by
 intro hc
 first
 |exact Pr hg (pg hc rfl)):OpOk P ops ms c V A G i o:=h hc
theorem ln (h:OpOk P ops ms c V A G i o:=by
 first
 |exact Ns hs (pt rfl) (by kernel_rfl)):OpOk P ops ms c V A G i o:=h
theorem WE (hc:φ) {o:Oper} (h:φ->OpOk P ops ms c V A G i o:=by
 intro hc
 first
 |exact Ns hg (pg hc rfl) (by kernel_rfl)):OpOk P ops ms c V A G i o:=h hc
theorem fa (h:OpOk P ops ms c V A G i o:=by
 first
 |exact Ef rfl rfl rfl rfl rfl (λ_ _=>by kernel_rfl) rfl (by kernel_rfl) (by kernel_rfl)
 |exact xF rfl rfl rfl rfl rfl rfl (λ_ _=>by kernel_rfl) rfl trivial (by kernel_rfl) (by kernel_rfl)
 |exact Ei rfl rfl rfl rfl rfl hs (λ_ _=>by kernel_rfl) rfl (by kernel_rfl) (by kernel_rfl)
 |exact xG rfl rfl rfl rfl rfl rfl hs (λ_ _=>by kernel_rfl) rfl trivial (by kernel_rfl) (by kernel_rfl)):OpOk P ops ms c V A G i o:=h
theorem Lg (hc:φ) {o:Oper} (h:φ->OpOk P ops ms c V A G i o:=by
 intro hc
 first
 |exact Ef rfl rfl rfl rfl rfl (λ_ _=>by kernel_rfl) rfl (by kernel_rfl) (by kernel_rfl)
 |exact xF rfl rfl rfl rfl rfl rfl (λ_ _=>by kernel_rfl) rfl (by first|exact trivial|exact hc) (by kernel_rfl) (by kernel_rfl)
 |exact Ei rfl rfl rfl rfl rfl hg (λ_ _=>by kernel_rfl) rfl (by kernel_rfl) (by kernel_rfl)
 |exact xG rfl rfl rfl rfl rfl rfl hg (λ_ _=>by kernel_rfl) rfl (by first|exact trivial|exact hc) (by kernel_rfl) (by kernel_rfl)):OpOk P ops ms c V A G i o:=h hc
theorem ix (h:OpOk P ops ms c V A G i o:=by
 first
 |exact lQ _ hs hs rfl (pt rfl) (by omega) (by kernel_rfl) (by kernel_rfl)
 |exact lQ _ hs hs (Int.toNat_of_nonneg (by omega)).symm (pt rfl) (by omega) (by kernel_rfl) (by kernel_rfl)):OpOk P ops ms c V A G i o:=h
theorem T3 (hc:φ) {o:Oper} (h:φ->OpOk P ops ms c V A G i o:=by
 intro hc
 first
 |exact lQ _ hg hg rfl (pg hc rfl) (by omega) (by kernel_rfl) (by kernel_rfl)
 |exact lQ _ hg hg (Int.toNat_of_nonneg (by omega)).symm (pg hc rfl) (by omega) (by kernel_rfl) (by kernel_rfl)):OpOk P ops ms c V A G i o:=h hc
theorem ext (h:OpOk P ops ms c V A G i o:=by
 first
 |exact jy hs QJ (pt rfl)
 |exact jy hs QK (pt rfl)
 |exact jy hs QL (pt rfl)
 |exact jy hs QM (pt rfl)
 |exact jy hs QN (pt rfl)):OpOk P ops ms c V A G i o:=h
theorem pk (h:OpOk P ops ms c V A G i o:=by
 first
 |exact Sl hs hs hs (pt rfl)
 |exact VP hs hs hs (pt rfl)):OpOk P ops ms c V A G i o:=h
theorem nw (h:OpOk P ops ms c V A G i o:=by
 first
 |exact sZ rfl rfl hs rfl rfl (dX (by kernel_rfl)) wg (by kernel_rfl)
 |exact xH rfl rfl rfl rfl (by kernel_rfl) rfl hs BM.ok (Gy rfl) rfl (by kernel_rfl) trivial wg rfl (by kernel_rfl)
 |exact xH rfl rfl rfl rfl (by kernel_rfl) rfl hs BM.ok (Gz rfl) rfl (by kernel_rfl) trivial wg rfl (by kernel_rfl)):OpOk P ops ms c V A G i o:=h
theorem bo (h:OpOk P ops ms c V A G i o:=by
 first
 |exact Sm rfl rfl rfl hs rfl wg (by kernel_rfl) (by kernel_rfl) (by kernel_rfl)):OpOk P ops ms c V A G i o:=h
theorem gd {j:Nat} {b cb:Bool} {op:Op} {dst:Option Nat} (h:cb=b->OpOk P ops ms c V A G i ⟨dst,op,ty,pos,aZ,none⟩) (hq:jX j G=some (pB cb):=by exact rfl) (hA:¬cb=b->BR A i:=by intro hn; first|exact .none rfl|exact X4 rfl hn (by kernel_rfl)) (hp:¬cb=b->Post G i (cI undef):=by intro hn; first|exact ZH hn rfl|exact .none rfl)
  (hj:(G.all λe=>e.tag != some j||((ms.getD i 0).testBit j&&jQ ms i e.till))=true:=by kernel_rfl) (hb:(V.all λx=>(x.born != some i&&x.dead != some i)&&x.st.all λq=>q.1 != i)=true:=by kernel_rfl):OpOk P ops ms c V A G i ⟨dst,op,ty,pos,aZ,some (j,b)⟩:=VO hq h hA hp hj hb
variable {T:TypeId} {v:Vr}
theorem rA (l:List Zl) (hv:GG i V=some v:=by exact rfl) (hT:v.T=T:=by exact rfl) (dI:v.kd=.ptr:=by exact rfl) (hc:v.c0=pv (pS (l.map Zl.fd)):=by exact rfl) (AA:v.agg=true:=by exact rfl)
  (hz:∀w,(zeroValue T).run P w=.ok (.agg (l.flatMap Zl.cs).toArray) w:=by exactλ_=>by kernel_rfl) (hl:(l.flatMap Zl.cs).length=v.n:=by exact rfl) (hst:((v.st.all λq=>(ms.getD q.1 0).testBit i)&&V.all λy=>y.dead != some i)=true:=by kernel_rfl) (hno:(G.all λe=>e.tag != some i)=true:=by kernel_rfl) (iI:(A.all λp=>p.var != v.id||p.tag.any λj=>(ms.getD j 0).testBit i)=true:=by kernel_rfl):
  OpOk P ops ms c V A G i ⟨some d,.alloc T,ty,pos,aZ,none⟩:=LQ l hv hT dI hc AA hz hl hst hno iI
theorem Pg (l:Zl) {z:Value} (hl:l.cs=[z]:=by exact rfl) (hv:GG i V=some v:=by exact rfl) (hT:v.T=T:=by exact rfl) (dI:v.kd=.ptr:=by exact rfl) (hc:v.c0=pv l.fd.p:=by exact rfl) (AA:v.agg=false:=by exact rfl) (hn:v.n=1:=by exact rfl)
  (hz:∀w,(zeroValue T).run P w=.ok z w:=by exactλ_=>by kernel_rfl) (yR:z.cells=[z].toArray:=by exact rfl) (hp:∀w,l.fd.p w z:=by exactλ_=>rfl) (hst:((v.st.all λq=>(ms.getD q.1 0).testBit i)&&V.all λy=>y.dead != some i)=true:=by kernel_rfl) (hno:(G.all λe=>e.tag != some i)=true:=by kernel_rfl) (iI:(A.all λp=>p.var != v.id||p.tag.any λj=>(ms.getD j 0).testBit i)=true:=by kernel_rfl):
  OpOk P ops ms c V A G i ⟨some d,.alloc T,ty,pos,aZ,none⟩:=Jy l hl hv hT dI hc AA hn hz yR hp hst hno iI
theorem fP {S f sz:Nat} {fs:List Fd} {q:Pred} (off n:Nat) (ag:Bool) (h:Has ms G i x (fL sz true (pS fs)):=by exact hs) (hq:Gc ag (wD fs off n)=some q:=by exact rfl) (hp:Post G i (fL n ag q):=by exact pt rfl) (hn:n≠0:=by decide) (hf:∀b o w,(Instr.fieldAt S (.pointer (some ⟨b,o,none⟩)) f).run P w=.ok (.pointer (some ⟨b,o+off,none⟩)) w:=by exactλ_ _ _=>by kernel_rfl)
  (hA:(A.all λq=>q.tag != some i)=true:=by kernel_rfl):OpOk P ops ms c V A G i ⟨some d,.fieldAddr S x f,ty,pos,aZ,none⟩:=
 dW rfl rfl rfl (.inr hA) hp λL β a w hI hd=>by
  have hr:=h.spec hI hd
  obtain⟨b,o,cs,e,_⟩:=hr.out
  refine⟨.pointer (some ⟨b,o+off,none⟩),w,?_,Below.refl _ _,λw' he=>?_⟩
  ·show(do pure (Next.value (<-Instr.fieldAt S (a.eval x) f))).run P w=_
   rw[e,Sem.run_bind,hf]
   rfl
  ·obtain⟨b',o',cs',e',hl,hc,hp'⟩:=hr w' he
   rw[e]at e'
   injection e' with e'
   injection e' with e'
   injection e' with e1 e2
   subst e1 e2
   obtain⟨ds,e3,hds⟩:=hp'
   have e4:=dF (show aA true cs'=aA true ds from e3)
   subst e4
   cases hs:wD fs off n with
   |none=>rw[hs]at hq; cases ag<;>cases hq
   |some l=>
    rw[hs]at hq
    have hk:=EE hs hds
    have hlen:=hk.2
    rw[if_neg hn]at hlen
    refine⟨b,o+off,(cs'.drop off).take n,rfl,by rw[List.length_take,List.length_drop]; omega,λj u hj=>?_,Eo hq hk.1⟩
    rw[List.getElem?_take]at hj
    split at hj
    ·rw[List.getElem?_drop]at hj
     rw[Nat.add_assoc]
     exact hc _ _ hj
    ·cases hj
variable {f:FuncId} {ts:Array TypeId} {p1 q1:Pred}
theorem E6 (jl:φ->∀w v1,p1 w v1->Calls P f #[v1] w (fu p w)) (h1:Has ms G i x q1:=by exact hs) (c1:∀w v,q1 w v->p1 w v:=by exact qW) (hp:Post G i p:=by exact pt rfl) (hφ:φ:=by first|omega|trivial) (hn:aB p:=by exact Eb) (hf:aM P f:=by exactλ_ _=>by kernel_rfl):
  OpOk P ops ms c V A G i ⟨some d,.call ⟨.value (.func f),#[x],ts⟩,ty,pos,aZ,none⟩:=fN hf hn (h1.imp c1) hp (jl hφ)
variable {p2 q2:Pred}
theorem P3 (jl:φ->∀w v1 v2,p1 w v1->p2 w v2->Calls P f #[v1,v2] w (fu p w)) (h1:Has ms G i x q1:=by exact hs) (c1:∀w v,q1 w v->p1 w v:=by exact qW) (h2:Has ms G i y q2:=by exact hs) (c2:∀w v,q2 w v->p2 w v:=by exact qW) (hp:Post G i p:=by exact pt rfl) (hφ:φ:=by first|omega|trivial) (hn:aB p:=by exact Eb) (hf:aM P f:=by exactλ_ _=>by kernel_rfl):
  OpOk P ops ms c V A G i ⟨some d,.call ⟨.value (.func f),#[x,y],ts⟩,ty,pos,aZ,none⟩:=dn hf hn (h1.imp c1) (h2.imp c2) hp (jl hφ)
theorem vY (jl:φ->∀M w v1,dc M w->aL M (λw=>p1 w v1) w->Calls P f #[v1] w (bu M p w)) (h1:Has ms G i x q1:=by exact hs) (c1:∀w v,q1 w v->p1 w v:=by exact qW) (hp:Post G i p:=by exact pt rfl) (hφ:φ:=by first|omega|trivial) (hf:aM P f:=by exactλ_ _=>by kernel_rfl):
  OpOk P ops ms c V A G i ⟨some d,.call ⟨.value (.func f),#[x],ts⟩,ty,pos,aZ,none⟩:=nY hf (h1.imp c1) hp (jl hφ)
theorem zx (jl:φ->∀M w v1 v2,dc M w->aL M (λw=>p1 w v1) w->aL M (λw=>p2 w v2) w->Calls P f #[v1,v2] w (bu M p w)) (h1:Has ms G i x q1:=by exact hs) (c1:∀w v,q1 w v->p1 w v:=by exact qW) (h2:Has ms G i y q2:=by exact hs) (c2:∀w v,q2 w v->p2 w v:=by exact qW) (hp:Post G i p:=by exact pt rfl) (hφ:φ:=by first|omega|trivial) (hf:aM P f:=by exactλ_ _=>by kernel_rfl):
  OpOk P ops ms c V A G i ⟨some d,.call ⟨.value (.func f),#[x,y],ts⟩,ty,pos,aZ,none⟩:=nZ hf (h1.imp c1) (h2.imp c2) hp (jl hφ)
end
section
variable {P:Program} {Q:Exit->Act->World->Prop} {c:eL} {V:List Vr} {G:List bI} {a:Act} {w:World}
theorem jb {id:Nat} {l:List Oper} {V1 V2:List Vr} {G1 G2:List bI} {y:Code} (h:Inv c V [] G none_ a w) (n:Nat) (nv:List Vr) (A1:List Al) (ne:List bI) (hV:vT nv V V1) (hG:me ne G G1) (hs:oC P l.toArray (tm n 0) c V1 A1 G1 0 l) (kV:fH V1 V2) (kG:aH G1 G2) (hk:∀a w,Inv c V2 [] G2 none_ a w->y.wp P Q a w) (hn:jF nv A1 ne=true:=by kernel_rfl) (hb:oH c.N l (tm n 0) V1 A1 G1=true:=by kernel_rfl):(Code.seq (Code.region id l.toArray false) y).wp P Q a w:=
 SB h nv A1 ne hV hG hn (tm n 0) hb hs kV kG hk
end
end Wx

namespace Wx
open Go Go.RowKit
section
variable {Fe:Fence} {n:Nat} {P:Program} {ops:Array Oper} {Q:Exit->Act->World->Prop}
theorem Di (F:List Nat) (hf:Fj ops=true) (hw:nD ops F=true) (I:(Nat->Bool)->Act->World->Prop)
  (hstep:∀i∈F,∀o,ops[i]?=some o->∀L a w,I L a w->L i=false->(∀e∈o.after,Region.binds .any e=true->L e.on=true)->wpOpIn Fe n P ops Q i (I (λj=>if j=i then true else L j)) a w)
  (uj:∀L a w,I L a w->(∀i∈F,L i=true)->∀fuel,((List.range ops.size).filter λj=>!((gT ops.size F).getD j true)).length<=fuel->wpAnyIn Fe n P .any ops Q fuel (gT ops.size F) a w):
  ∀(fuel:Nat) (listed:Array Bool) (a:Act) (w:World),sF ops.size F listed->qQ ops listed->I (λj=>listed.getD j false) a w ->
   ((List.range ops.size).filter λj=>!(listed.getD j true)).length<=fuel->wpAnyIn Fe n P .any ops Q fuel listed a w:=by
 have all:∀(fuel:Nat) (listed:Array Bool) (a:Act) (w:World),sF ops.size F listed->I (λj=>listed.getD j false) a w ->
   ((List.range ops.size).filter λj=>!(listed.getD j true)).length<=fuel->(∀i∈F,listed.getD i false=true)->wpAnyIn Fe n P .any ops Q fuel listed a w:=by
  intro fuel listed a w hr hI hc hall
  have e:listed=gT ops.size F:=by
   apply Array.ext
   ·rw[hr.1]; simp[gT]
   ·intro i h1 h2
    have hi:i<ops.size:=by rw[<-hr.1]; exact h1
    simp only[gT,List.getElem_toArray,List.getElem_map,List.getElem_range]
    cases hF:F.contains i with
    |true=>
     have:=hall i (by simpa using hF)
     simpa [h1] using this
    |false=>
     have:=hr.2 i hi hF
     simpa [h1] using this
  have hI':=uj _ a w hI hall
  rw[<-e]at hI'
  exact hI' fuel hc
 have hlt:∀j∈F,j<ops.size:=by
  intro j hj
  simp only[nD,Bool.and_eq_true,List.all_eq_true,decide_eq_true_eq]at hw
  exact hw.1 j hj
 have GQ:∀i,i<ops.size->i∈F\/∀j∈F,j∈before ops ops.size i:=by
  intro i hi
  simp only[nD,Bool.and_eq_true,List.all_eq_true,List.mem_range,Bool.or_eq_true,List.contains_iff_mem]at hw
  exact hw.2 i hi
 intro fuel
 induction fuel with
 |zero=>
  intro listed a w hr ue hI hc
  refine all 0 listed a w hr hI hc (λi hi=>?_)
  rcases Nat.lt_or_ge i ops.size with h'|h'
  ·have h0:(List.range ops.size).filter (λj=>!(listed.getD j true))=[]:=List.eq_nil_of_length_eq_zero (by omega)
   have:=List.filter_eq_nil_iff.1 h0 i (List.mem_range.2 h')
   have hsz:i<listed.size:=by rw[hr.1]; exact h'
   simpa [hsz] using this
  ·exfalso
   have:=hlt i hi
   omega
 |succ fuel ih=>
  intro listed a w hr ue hI hc
  by_cases hall:∀i∈F,listed.getD i false=true
  ·exact all _ listed a w hr hI hc hall
  ·have hx:∃i∈F,¬listed.getD i false=true:=by
    apply Classical.byContradiction
    intro h
    exact hall (λi hi=>Classical.byContradiction λh'=>h ⟨i,hi,h'⟩)
   obtain⟨k,hk,RI⟩:=hx
   have hks:=hlt k hk
   have OM:listed.getD k true=false:=by
    have:k<listed.size:=by rw[hr.1]; exact hks
    simp[this]at RI ⊢
    exact RI
   refine⟨λh=>absurd h (uX hf hks OM hr.1),λi hi=>?_⟩
   obtain⟨OK,o,ho,hpre⟩:=mem_ready.1 hi
   have IB:i<ops.size:=by
    rcases Nat.lt_or_ge i ops.size with h'|h'
    ·exact h'
    ·rw[Array.getElem?_eq_none h']at ho; cases ho
   have Rz:i∈F:=by
    apply Classical.byContradiction
    intro hn
    have Fy:=(GQ i IB).resolve_left hn
    apply hall
    intro j hj
    refine oD ue ops.size i (λo' xp e he hb=>?_) j (Fy j hj)
    rw[ho]at xp
    injection xp with xp
    subst xp
    exact hpre e he hb
   have hno:listed.getD i false=false:=by
    have hs:i<listed.size:=by rw[hr.1]; exact IB
    simp[hs]at OK ⊢
    exact OK
   refine wpOpIn_mono (λa' w' h'=>ih _ a' w' ⟨by rw[Array.size_setIfInBounds]; exact hr.1,λj hj hF=>?_⟩ (ue.set hi) ?_ ?_) (hstep i Rz o ho _ a w hI hno (λe he hb=>hpre e he hb))
   ·have hij:i≠j:=by
     rintro rfl
     have:F.contains i=true:=by simpa using Rz
     rw[this]at hF; cases hF
    have:=hr.2 j hj hF
    simpa [Array.getElem?_setIfInBounds_ne hij] using this
   ·have e:(λj=>(listed.setIfInBounds i true).getD j false)=(λj=>if j=i then true else listed.getD j false):=by
     funext j
     by_cases hij:j=i
     ·subst hij
      have:j<listed.size:=by rw[hr.1]; exact IB
      simp[this]
     ·simp[Array.getElem?_setIfInBounds_ne (Ne.symm hij),hij]
    rw[e]; exact h'
   ·have:=tP hr.1 IB OK
    omega
theorem Bq {id:Nat} {l:List Oper} (hm:P.follows .mixedOrders=true) (hok:ja l.toArray=true) (I:(Nat->Bool)->Act->World->Prop)
  {a:Act} {w:World} (h0:I (λ_=>false) a w.drew) (hstep:∀i o,l[i]?=some o->∀L a w,I L a w->L i=false->(∀j∈zf o,L j=true)->wpOpIn Fe n P l.toArray Q i (I (λj=>if j=i then true else L j)) a w)
  (uj:∀L a w,I L a w->(∀i,i<l.length->L i=true)->Q .normal a w):(Code.region id l.toArray true).wpIn Fe n P Q a w:=by
 simp only[ja,Bool.and_eq_true,decide_eq_true_eq]at hok
 obtain⟨h1,h3⟩:=hok
 have hF:gT l.toArray.size (List.range l.toArray.size)=Array.replicate l.toArray.size true:=by
  apply Array.ext
  ·simp[gT]
  ·intro i h1 h2
   have hi:i<l.length:=by simpa [gT] using h1
   simp[gT,hi]
 refine wpIn_region_any hm (Di (List.range l.toArray.size) h1 ?_ I (λi hi o ho L a w hI hno hpre=>?_) (λL a w hI hall fuel hfl=>?_) l.toArray.size _ a _ ⟨by simp,λi hi _=>(by have hi':i<l.length:=(by simpa using hi); simp[hi'])⟩ ?_ ?_ ?_)
 ·simp only[nD,Bool.and_eq_true,List.all_eq_true,decide_eq_true_eq,List.mem_range,Bool.or_eq_true]
  exact⟨λj hj=>hj,λi hi=>.inl (by simpa using hi)⟩
 ·have xp:l[i]?=some o:=by simpa using ho
  exact hstep i o xp L a w hI hno (λj hj=>by
   simp only[zf,List.mem_map,List.mem_filter]at hj
   obtain⟨e,⟨he,hb⟩,rfl⟩:=hj
   exact hpre e (by simpa using he) hb)
 ·rw[hF]
  have hq:=uj L a w hI (λi hi=>hall i (List.mem_range.2 (by simpa using hi)))
  cases fuel with
  |zero=>exact⟨h3,hq⟩
  |succ n=>exact⟨λ_=>hq,by rw[h3]; simp⟩
 ·intro i o ho hl
  exfalso
  rcases Nat.lt_or_ge i l.toArray.size with h'|h'
  ·have h2:i<l.length:=by simpa using h'
   simp[h2]at hl
  ·have h2:l.length<=i:=by simpa using h'
   simp[h2]at hl
 ·have e:(λj=>(Array.replicate l.toArray.size false).getD j false)=(λ_=>false):=by
   funext j
   rcases Nat.lt_or_ge j l.length with h'|h'
   ·simp[h']
   ·simp[h']
  rw[e]; exact h0
 ·have:=List.length_filter_le (λj=>!((Array.replicate l.toArray.size false).getD j true)) (List.range l.toArray.size)
  rw[List.length_range]at this
  exact this
end
def Cp (ro:Option Nat):Fence:={ Fence.wide with round:=ro }
def ot (ds:List Deferred) (a:Act):Act:={ a with defers:=ds++a.defers }
def iA (o:Oper):Bool:=match o.op with
 |.defer _=>false
 |_=>true
def _root_.Go.Code.ww (ro:Option Nat) (ds:List Deferred) (P:Program) (c:Code) (Q:Exit->Act->World->Prop) (a:Act) (w:World):Prop:=
 ∀n,c.wpIn (Cp ro) n P (λe a' w'=>∃a0,a'=ot ds a0/\Q e a0 w') (ot ds a) w
theorem tQ (ds:List Deferred) (a:Act):(ot ds a).eval=a.eval:=by funext x; cases x<;>rfl
theorem sO (ds:List Deferred) (a:Act) (d:Option Nat) (v:Value):(ot ds a).put d v=ot ds (a.put d v):=by cases d<;>rfl
variable {ro:Option Nat} {n:Nat} {P:Program} {w:World}
theorem wN {f:FuncId} {args:Array Value} {R:Ending->World->Prop} (h:Calls P f args w R):CallsIn (Cp ro) n P f args w R:=(callsIn_wide (n:=n)).2 h
theorem eC.JA {ds:List Deferred} {ops:Array Oper} {Q:Exit->Act->World->Prop} {i:Nat} {o:Oper} {a:Act} {K K':Act->World->Prop} (hi:ops[i]?=some o) (hd:iA o=true) (h:eC P ops o a w K) (hK:∀a w,K a w->K' (ot ds a) w):
  wpOpIn (Cp ro) n P ops Q i K' (ot ds a) w:=by
 unfold wpOpIn
 rw[hi]
 unfold eC at h
 have hy:yielded ops (ot ds a).tmps=yielded ops a.tmps:=rfl
 simp only[hy]
 split
 ·rename_i hw
  rw[if_pos hw]at h
  unfold Oper.wpIn
  refine⟨λ_ _=>trivial,?_⟩
  rw[tQ,Oper.semAt_eq _ _ _ (λc hc=>by unfold iA at hd; rw[hc]at hd; cases hd)]
  unfold Does at h
  generalize (execOp a.eval o).run P w=r at *
  cases r with
  |ok x w'=>
   cases x<;>simp only[Oper.uponIn]at h ⊢<;>first|(rw[sO]; exact hK _ _ h)|exact h.elim|skip
   case enter f args=>
    refine⟨λh=>(by cases h),CallsIn.mono (wN h) λe w'' he=>?_⟩
    obtain⟨v,rfl,hk⟩:=he
    show K' ((ot ds a).put o.dst v) w''
    rw[sO]
    exact hK _ _ hk
  |halt x w'=>cases x<;>exact h.elim
 ·rename_i hw
  rw[if_neg hw]at h
  refine⟨λ_ _=>trivial,?_⟩
  rw[sO]
  exact hK _ _ h
section
variable {ro:Option Nat} {ds:List Deferred} {P:Program} {Q:Exit->Act->World->Prop} {a:Act} {w:World} {c:eL} {V:List Vr} {A:List Al} {G:List bI}
theorem bD (h:Q .normal a w):Code.skip.ww ro ds P Q a w:=λ_=>wpIn_skip ⟨_,rfl,h⟩
variable {id:Nat}
theorem gz (h:Q (.exit id) a w):(Code.exit id).ww ro ds P Q a w:=λ_=>wpIn_exit ⟨_,rfl,h⟩
theorem bL (h:Q .ret a w):Code.ret.ww ro ds P Q a w:=λ_=>wpIn_ret ⟨_,rfl,h⟩
variable {x y:Code}
theorem aU (h:x.ww ro ds P (Exit.then (y.ww ro ds P Q) Q) a w):(Code.seq x y).ww ro ds P Q a w:=λn=>wpIn_seq (wpIn_mono (h n) λe a' w' ⟨a0,e0,h0⟩=>by
 subst e0
 cases e with
 |normal=>exact h0 n
 |_=>exact⟨a0,rfl,h0⟩)
theorem bN (h:x.ww ro ds P (Exit.inBlock id Q) a w):(Code.block id x).ww ro ds P Q a w:=λn=>wpIn_block (wpIn_mono (h n) λe a' w' ⟨a0,e0,h0⟩=>by
 subst e0
 cases e with
 |exit m=>
  by_cases hm:m=id
  ·subst hm; simp only[Exit.inBlock,if_true]at h0 ⊢; exact⟨a0,rfl,h0⟩
  ·simp only[Exit.inBlock,hm,if_false]at h0 ⊢; exact⟨a0,rfl,h0⟩
 |_=>exact⟨a0,rfl,h0⟩)
theorem tq {s:Operand} {t:Bool} (hc:a.eval s=.bool t) (ht:t=true->x.ww ro ds P Q a w) (hf:t=false->y.ww ro ds P Q a w):(Code.cond s x y).ww ro ds P Q a w:=λn=>wpIn_cond_split (t:=t) (by rw[tQ]; exact hc) (λh=>ht h n) (λh=>hf h n)
theorem Mt {ι:Type} {C:Code} (I:ι->Act->World->Prop) (μ:ι->Nat) (k0:ι) (h0:I k0 a w)
  (round:∀k a w,I k a w->C.ww ro ds P (Exit.then (λa' w'=>∃k',I k' a' w'/\μ k'<μ k) Q) a w):(Code.loop C).ww ro ds P Q a w:=by
 intro n
 refine wpIn_loop_rounds (μ k0+1) ?_
 have key:∀m k a w,I k a w->μ k<m->Code.roundsIn (Cp ro) n P C (λe a' w'=>∃a0,a'=ot ds a0/\Q e a0 w') m (ot ds a) w:=by
  intro m
  induction m with
  |zero=>intro k a w _ h; omega
  |succ m ih=>
   intro k a w hI hm
   rw[roundsIn_succ]
   refine wpIn_mono (round k a w hI n) λe a' w' ⟨a0,e0,h'⟩=>?_
   subst e0
   cases e with
   |normal=>
    obtain⟨k',hI',hlt⟩:=h'
    exact ih k' a0 w' hI' (by omega)
   |_=>exact⟨a0,rfl,h'⟩
 exact key _ k0 a w h0 (by omega)
variable {l:List Oper}
theorem Kr (ms:List Nat) (hm:P.follows .mixedOrders=true) (hok:ja l.toArray=true) (wm:xw l=ms) (hwf:vP c.N l V A G=true) (P8:l.all iA=true)
  (h0:Inv c V A G none_ a w) (hs:oC P l.toArray ms c V A G 0 l) (hk:∀a w,Inv c V A G (λ_=>true) a w->Q .normal a w):(Code.region id l.toArray true).ww ro ds P Q a w:=by
 intro n
 have yN:=AV l
 rw[wm]at yN
 refine Bq hm hok (λL a' w=>∃a,a'=ot ds a/\Inv c V A G L a w/\nE l L) ⟨a,rfl,?_,λi o _ h=>by cases h⟩ ?_ ?_
 ·obtain⟨β,hβ⟩:=h0
  exact⟨β,hβ.draws⟩
 ·rintro i o hi L _ w ⟨a,rfl,hI,hc⟩ hno hpre
  have yJ:oB ms i L:=⟨hno,λj hj=>yN.2 L hc i o hi hpre j hj,λj hj=>by
   cases hL:L j with
   |false=>rfl
   |true=>
    cases OX:l[j]? with
    |none=>
     have h1:=yN.1
     rw[List.getD_eq_getElem?_getD,List.getElem?_eq_none (by have:=List.getElem?_eq_none_iff.1 OX; omega)]at hj
     simp at hj
    |some oj=>
     have:=yN.2 L hc j oj OX (λm hm=>hc j oj OX hL m hm) i hj
     rw[hno]at this
     cases this⟩
  have ue:nE l (upd L i):=by
   intro k ok ug hL j hj
   by_cases RH:k=i
   ·subst RH
    rw[hi]at ug
    injection ug with ug
    subst ug
    have:=hpre j hj
    unfold upd
    split
    ·rfl
    ·exact this
   ·have:=hc k ok ug (Kg hL RH) j hj
    unfold upd
    split
    ·rfl
    ·exact this
  have hop:=hs.get hi
  rw[Nat.zero_add]at hop
  exact(hop L a w hI yJ (vQ hwf hi)).JA (by simpa using hi) (List.all_eq_true.1 P8 o (List.mem_of_getElem? hi)) λa' w' h'=>⟨a',rfl,h',ue⟩
 ·rintro L _ w ⟨a,rfl,⟨β,hI⟩,_⟩ hall
  exact⟨a,rfl,hk a w ⟨β,hI.congr (ji hwf) hall⟩⟩
theorem Mu (hwf:vP c.N l V A G=true) (P8:l.all iA=true)
  (h0:Inv c V A G none_ a w) (hs:oC P l.toArray (bC l.length) c V A G 0 l) (hk:∀a w,Inv c V A G (λ_=>true) a w->Q .normal a w):(Code.region id l.toArray false).ww ro ds P Q a w:=by
 intro n
 refine wpIn_region ?_
 have tm:∀k j,((bC l.length).getD k 0).testBit j=true->j<k:=by
  intro k j h
  rcases Nat.lt_or_ge k l.length with h'|h'
  ·have e:(bC l.length).getD k 0=2^k-1:=by simp[bC,h']
   rw[e,Nat.testBit_two_pow_sub_one]at h
   simpa using h
  ·have e:(bC l.length).getD k 0=0:=by simp[bC,Nat.not_lt.2 h']
   rw[e]at h
   simp at h
 have key:∀(m i:Nat),i+m=l.length->∀(a:Act) (w:World),Inv c V A G (λj=>decide (j<i)) a w->wpOpsIn (Cp ro) n P l.toArray (λe a' w'=>∃a0,a'=ot ds a0/\Q e a0 w') (List.range' i m) (ot ds a) w:=by
  intro m
  induction m with
  |zero=>
   rintro i hi a w ⟨β,hI⟩
   exact⟨a,rfl,hk a w ⟨β,hI.congr (ji hwf) λj hj=>by simp; omega⟩⟩
  |succ m ih=>
   intro i hi a w hI
   obtain⟨o,ho⟩:∃o,l[i]?=some o:=⟨l[i]'(by omega),List.getElem?_eq_getElem (by omega)⟩
   rw[List.range'_succ,wpOpsIn_cons]
   have yJ:oB (bC l.length) i (λj=>decide (j<i)):=⟨by simp,λj hj=>by simpa using tm i j hj,λj hj=>by have:=tm j i hj; simp; omega⟩
   have hop:=hs.get ho
   rw[Nat.zero_add]at hop
   refine(hop _ a w hI yJ (vQ hwf ho)).JA (by simpa using ho) (List.all_eq_true.1 P8 o (List.mem_of_getElem? ho)) λa' w' h'=>ih (i+1) (by omega) a' w' ?_
   have e:upd (λj=>decide (j<i)) i=(λj=>decide (j<i+1)):=by
    funext j
    unfold upd
    by_cases h:j=i
    ·simp[h]
    ·rw[if_neg h]
     by_cases h2:j<i
     ·simp[h2]; omega
     ·simp[h2]; omega
   rw[<-e]
   exact h'
 have:=key l.length 0 (by omega) a w (by
  have e:(λj=>decide (j<0))=none_:=by funext j; simp
  rw[e]
  exact h0)
 rwa [<-List.range_eq_range',show l.length=l.toArray.size by simp]at this
end
end Wx
