import Derived.Test.YtfnmkhlleanppaaGreatDoorCWBAuto
namespace Wx
open Go Go.RowKit
def C1 (P:Program) (E:TypeId) (n:Nat):Bool:=match P.info? E with
 |some i=>Nat.beq i.size n
 |none=>false
variable {P:Program} {n:Nat}
theorem jT {E:TypeId} (h:C1 P E n=true) (w:World):(Go.sizeOf E).run P w=.ok n w:=by
 unfold C1 at h
 split at h
 ·rename_i i hi
  have:=Nat.eq_of_beq_eq_true h
  subst this
  simp[Go.sizeOf,typeInfo,hi]
 ·cases h
def Bf (P:Program) (T:TypeId) (ag:Bool) (n:Nat):Bool:=C1 P T n&&((ag||Nat.beq n 1)&&match P.underlying T with
 |some (.struct _)|some (.array _ _)=>ag
 |some _=>!ag
 |none=>false)
variable {T:TypeId} {ag:Bool}
theorem cH (h:Bf P T ag n=true):Ty P T ag n:=by
 unfold Bf at h
 rw[Bool.and_eq_true,Bool.and_eq_true]at h
 obtain⟨h1,h2,h3⟩:=h
 refine⟨λw=>?_,jT h1,λe=>?_⟩
 ·cases hu:P.underlying T with
  |none=>rw[hu]at h3; cases h3
  |some u=>
   rw[hu]at h3
   have hr:=run_underlying hu w
   simp only[isAgg,Sem.run_bind,hr,Result.andThen_ok]
   cases u<;>simp at h3<;>subst h3<;>rfl
 ·subst e; rw[Bool.false_or]at h2; exact Nat.eq_of_beq_eq_true h2
class yo (P:Program) (T:TypeId) (ag:outParam Bool) (n:outParam Nat):Prop where
 ok:Ty P T ag n
def xU (P:Program) (T:TypeId) (sz:Nat):Bool:=match P.underlying T with
 |some (.slice E)=>C1 P E sz
 |_=>false
variable {sz:Nat}
theorem gZ (h:xU P T sz=true):∃E,eX P T E sz:=by
 unfold xU at h
 split at h
 ·rename_i E hE; exact⟨E,hE,jT h⟩
 ·cases h
def Aj (P:Program) (T:TypeId):Bool:=match P.underlying T with
 |some (.slice _)=>true
 |_=>false
theorem xg (h:Aj P T=true):∃E,P.underlying T=some (.slice E):=by
 unfold Aj at h
 split at h
 ·rename_i E hE; exact⟨E,hE⟩
 ·cases h
def zy (P:Program) (T:TypeId) (len sz:Nat):Bool:=match P.underlying T with
 |some (.array n E)=>Nat.beq n len&&C1 P E sz
 |_=>false
theorem iR {len:Nat} (h:zy P T len sz=true) {b off:Nat} {m:Int} (h0:0<=m) (h1:m<len) (w:World):(Instr.indexAt T (.pointer (some ⟨b,off,none⟩)) (.int .i64 m)).run P w=.ok (.pointer (some ⟨b,off+m.toNat*sz,none⟩)) w:=by
 unfold zy at h
 split at h
 ·rename_i n E hE
  rw[Bool.and_eq_true]at h
  have e:=Nat.eq_of_beq_eq_true h.1
  subst e
  have hu:(underlying T).run P w=.ok (.array n E) w:=run_underlying hE w
  simp only[Instr.indexAt,asIntOf,pure_bind,Sem.run_bind,hu,Result.andThen_ok,Instr.sureAddr]
  rw[if_pos ⟨h0,h1⟩]
  simp only[Sem.run_bind,jT h.2,Result.andThen_ok,Sem.run_pure,Addr.add_mid]
 ·cases h
variable {p:Pred}
theorem sx (h:Fits n ag p:=by
 first
 |exact mS
 |exact mR
 |exact fits_int _
 |exact fits_bool _
 |exact oc _
 |exact od _
 |exact kj _ _ _
 |exact aH
 |exact oh _
 |exact qW (λ_=>mS) (by first|rfl|omega|(simp; omega))
 |exact qW (λ_=>mR) (by first|rfl|omega|(simp; omega))
 |exact mU (by repeat' (first|exact trivial|exact mS|exact mR|exact fits_int _|exact fits_bool _|exact kj _ _ _|exact aH|exact oh _|refine⟨?_,?_⟩)) rfl):Fits n ag p:=h
variable {q:Pred}
theorem ig (h:∀w v,p w v->q w v:=by
 first
 |exactλ_ _ h=>h
 |exact oW (by omega)
 |exact vB (by omega)
 |exact rV.pV (by repeat' (first|exact rV.z|refine rV.c (by omega) ?_))
 |exactλ_ _ h=>h
 |exactλ_ _ h=>h.2):∀w v,p w v->q w v:=h
variable {i:Nat}
theorem Has.Ew {ms:List Nat} {G:List aI} {x:Operand} {φ ψ:Prop} (h:Has ms G i x (jn (φ/\ψ) q)) (hφ:φ):Has ms G i x (jn ψ q):=
 h.imp λ_ _ k=>⟨λhψ=>k.1 ⟨hφ,hψ⟩,λhψ=>k.2 λhh=>hψ hh.2⟩
theorem EL {A:List Al} {al:Al} (h:BJ i A=some al) (hn:¬al.cond) (hu:(A.filter λq=>q.tag==some i).length=1):lq A i:=by
 obtain⟨⟨k,hk⟩,ht⟩:=wj h
 exact .at_ k hk ht hu hn
def tm:Nat->Nat->List Nat
 |0,_=>[]
 |n+1,k=>k::tm n (2*k+1)
section
variable {P:Program} {ops:Array Oper} {ms:List Nat} {c:bJ} {V:List Vr} {A:List Al} {G:List aI} {i:Nat}{d:Nat} {x y z:Operand} {ty:TypeId} {pos:String} {au:Array Edge}{T:TypeId} {sz n:Nat} {agg:Bool} {f:Nat->Pred}
theorem yS (h:Has ms G i x (ax sz agg n f)) (hp:Post G i (pI (n:Int))) (ht:Aj P T=true):
  OpOk P ops ms c V A G i ⟨some d,.call ⟨.builtin .len,#[x],#[T]⟩,ty,pos,au,none⟩:=(xg ht).elim λ_ hE=>AO h hE hp
theorem aZ {m:Int} (k:Nat) (h:Has ms G i x (ax sz agg n f)) (hy:Has ms G i y (pI m)) (hm:m=(k:Int)) (hp:Post G i (cZ sz agg (f k))) (hk:k<n) (ht:xU P T sz=true) (hA:(A.all λq=>q.tag != some i)=true):
  OpOk P ops ms c V A G i ⟨some d,.indexAddr T x y,ty,pos,au,none⟩:=by
 obtain⟨E,hE⟩:=gZ ht
 subst hm
 exact jA h hy hE (by omega) (by omega) hA (by rw[Int.toNat_natCast]; exact hp)
theorem aE {p:Pred} (h:Has ms G i x (cZ sz agg p)) (hp:Post G i p) (ht:Bf P T agg sz=true) (hfit:Fits sz agg p):OpOk P ops ms c V A G i ⟨some d,.load T x,ty,pos,au,none⟩:=
 vl h (cH ht) hfit hp
variable {cb b2:Bool}
theorem yO (h:Has ms G i x (pB cb)) (hy:Has ms G i y (jn (cb=true) (pB b2))) (hz:Has ms G i z (pB false)) (hp:Post G i (pB (cb&&b2))):OpOk P ops ms c V A G i ⟨some d,.pick x y z,ty,pos,au,none⟩:=
 nA h (λe=>(hy.Bz e).imp λ_ _ k=>by rw[e]; exact k) (λe=>hz.imp λ_ _ k=>by rw[e]; exact k) hp
theorem CK (h:Has ms G i x (pB cb)) (hy:Has ms G i y (pB true)) (hz:Has ms G i z (jn (cb=false) (pB b2))) (hp:Post G i (pB (cb||b2))):OpOk P ops ms c V A G i ⟨some d,.pick x y z,ty,pos,au,none⟩:=
 nA h (λe=>hy.imp λ_ _ k=>by rw[e]; exact k) (λe=>(hz.Bz e).imp λ_ _ k=>by rw[e]; exact k) hp
end
end Wx

namespace Wx
open Go Go.RowKit
section
variable {P:Program} {ops:Array Oper} {ms:List Nat} {c:bJ} {V:List Vr} {A:List Al} {G:List aI} {i:Nat}{d:Nat} {x y z:Operand} {ty:TypeId} {pos:String} {au:Array Edge}{p:Pred}
theorem hs (h:Has ms G i x p:=by
 first
 |exact look rfl
 |exact .const _
 |exact .func _):Has ms G i x p:=h
theorem hg (h:Has ms G i x p:=by
 first
 |exact .const _
 |exact .func _
 |exact Has.Bz (look rfl) (by assumption)
 |exact Has.Bz (look rfl) (And.left (by assumption))
 |exact Has.Ew (look rfl) (by assumption)
 |exact look rfl):Has ms G i x p:=h
variable {φ:Prop}
theorem pg (hc:φ) (h:fT i G=some (jn φ p)):Post G i p:=GA hc h
variable {o:Oper}
theorem mv (h:OpOk P ops ms c V A G i o:=by
 first
 |exact rC hs (pt rfl)
 |exact me hs (pt rfl)):OpOk P ops ms c V A G i o:=h
theorem gr (hc:φ) {o:Oper} (h:φ->OpOk P ops ms c V A G i o:=by
 intro hc
 first
 |exact rC hg (pg hc rfl)
 |exact me hg (pg hc rfl)):OpOk P ops ms c V A G i o:=h hc
theorem FM (hc:φ) {o:Oper} (h:φ->OpOk P ops ms c V A G i o:=by
 intro hc
 first
 |exact o_load rfl rfl rfl rfl (pg hc rfl) (cH (by kernel_rfl))
 |exact ve rfl rfl rfl rfl (by kernel_rfl) rfl yo.ok (uT rfl) (by first|exact trivial|exact hc) (pg hc rfl) rfl
 |exact aE hg (pg hc rfl) (by kernel_rfl) sx):OpOk P ops ms c V A G i o:=h hc
theorem bn (h:OpOk P ops ms c V A G i o:=by
 first
 |exact yU hs hs (pt rfl)
 |exact yT hs hs (pt rfl)
 |exact yR hs hs (pt rfl)
 |exact yQ hs hs (pt rfl)
 |exact yP hs hs (pt rfl)
 |exact yY hs hs (pt rfl)
 |exact yN hs hs (pt rfl)
 |exact yZ hs hs (pt rfl)
 |exact yV hs hs (pt rfl)):OpOk P ops ms c V A G i o:=h
theorem nJ (hc:φ) {o:Oper} (h:φ->OpOk P ops ms c V A G i o:=by
 intro hc
 first
 |exact yU hg hg (pg hc rfl)
 |exact yT hg hg (pg hc rfl)
 |exact yR hg hg (pg hc rfl)
 |exact yQ hg hg (pg hc rfl)
 |exact yP hg hg (pg hc rfl)
 |exact yY hg hg (pg hc rfl)
 |exact yN hg hg (pg hc rfl)
 |exact yZ hg hg (pg hc rfl)
 |exact yV hg hg (pg hc rfl)):OpOk P ops ms c V A G i o:=h hc
theorem nt (h:OpOk P ops ms c V A G i o:=by
 first
 |exact vp hs (pt rfl)):OpOk P ops ms c V A G i o:=h
theorem DV (hc:φ) {o:Oper} (h:φ->OpOk P ops ms c V A G i o:=by
 intro hc
 first
 |exact vp hg (pg hc rfl)):OpOk P ops ms c V A G i o:=h hc
theorem ln (h:OpOk P ops ms c V A G i o:=by
 first
 |exact yS hs (pt rfl) (by kernel_rfl)):OpOk P ops ms c V A G i o:=h
theorem DU (hc:φ) {o:Oper} (h:φ->OpOk P ops ms c V A G i o:=by
 intro hc
 first
 |exact yS hg (pg hc rfl) (by kernel_rfl)):OpOk P ops ms c V A G i o:=h hc
theorem ix (h:OpOk P ops ms c V A G i o:=by
 first
 |exact aZ _ hs hs rfl (pt rfl) (by omega) (by kernel_rfl) (by kernel_rfl)
 |exact aZ _ hs hs (Int.toNat_of_nonneg (by omega)).symm (pt rfl) (by omega) (by kernel_rfl) (by kernel_rfl)):OpOk P ops ms c V A G i o:=h
theorem ext (h:OpOk P ops ms c V A G i o:=by
 first
 |exact cY hs B1 (pt rfl)
 |exact cY hs B2 (pt rfl)
 |exact cY hs B3 (pt rfl)
 |exact cY hs B4 (pt rfl)
 |exact cY hs B5 (pt rfl)):OpOk P ops ms c V A G i o:=h
theorem pk (h:OpOk P ops ms c V A G i o:=by
 first
 |exact yO hs hs hs (pt rfl)
 |exact CK hs hs hs (pt rfl)):OpOk P ops ms c V A G i o:=h
theorem DW (hc:φ) {o:Oper} (h:φ->OpOk P ops ms c V A G i o:=by
 intro hc
 first
 |exact yO hg hg hg (pg hc rfl)
 |exact CK hg hg hg (pg hc rfl)):OpOk P ops ms c V A G i o:=h hc
theorem GJ (h:OpOk P ops ms c V A G i o:=by
 first
 |exact iO rfl rfl hs rfl rfl (cH (by kernel_rfl)) sx (by kernel_rfl)
 |exact mb rfl rfl rfl rfl (by kernel_rfl) rfl hs yo.ok (tq rfl) rfl (by kernel_rfl) trivial sx rfl (by kernel_rfl)
 |exact mb rfl rfl rfl rfl (by kernel_rfl) rfl hs yo.ok (tr rfl) rfl (by kernel_rfl) trivial sx rfl (by kernel_rfl)):OpOk P ops ms c V A G i o:=h
theorem bo (h:OpOk P ops ms c V A G i o:=by
 first
 |exact CI rfl rfl rfl hs rfl sx (by kernel_rfl) (by kernel_rfl) (by kernel_rfl)):OpOk P ops ms c V A G i o:=h
variable {j:Nat} {b cb:Bool}
theorem gd {op:Op} {dst:Option Nat} (h:cb=b->OpOk P ops ms c V A G i ⟨dst,op,ty,pos,au,none⟩) (hq:fT j G=some (pB cb):=by exact rfl) (hA:¬cb=b->lq A i:=by intro hn; first|exact .none rfl|exact EL rfl hn (by kernel_rfl)) (hp:¬cb=b->Post G i (aJ undef):=by intro hn; first|exact Fi hn rfl|exact .none rfl)
  (hj:(G.all λe=>e.tag != some j||((ms.getD i 0).testBit j&&eT ms i e.till))=true:=by kernel_rfl) (hb:(V.all λx=>(x.born != some i&&x.dead != some i)&&x.st.all λq=>q.1 != i)=true:=by kernel_rfl):OpOk P ops ms c V A G i ⟨dst,op,ty,pos,au,some (j,b)⟩:=Es hq h hA hp hj hb
theorem tD [Decidable φ] {op:Op} {dst:Option Nat} (h:φ/\cb=b->OpOk P ops ms c V A G i ⟨dst,op,ty,pos,au,none⟩) (hq:fT j G=some (jn φ (pB cb)):=by exact rfl) (hA:¬(φ/\cb=b)->lq A i:=by intro hn; first|exact .none rfl|exact EL rfl hn (by kernel_rfl)) (hp:¬(φ/\cb=b)->Post G i (aJ undef):=by intro hn; first|exact Fi hn rfl|exact .none rfl)
  (hj:(G.all λe=>e.tag != some j||((ms.getD i 0).testBit j&&eT ms i e.till))=true:=by kernel_rfl) (hb:(V.all λx=>(x.born != some i&&x.dead != some i)&&x.st.all λq=>q.1 != i)=true:=by kernel_rfl):OpOk P ops ms c V A G i ⟨dst,op,ty,pos,au,some (j,b)⟩:=CJ hq h hA hp hj hb
theorem CH {T:TypeId} {v:Vr} (l:Zl) {z:Value} (hl:l.cs=[z]:=by exact rfl) (hv:pL i V=some v:=by exact rfl) (hT:v.T=T:=by exact rfl) (bT:v.kd=.ptr:=by exact rfl) (hc:v.c0=pv l.fd.p:=by exact rfl) (hag:v.agg=false:=by exact rfl) (hn:v.n=1:=by exact rfl)
  (hz:∀w,(zeroValue T).run P w=.ok z w:=by exactλ_=>by kernel_rfl) (lG:z.cells=[z].toArray:=by exact rfl) (hp:∀w,l.fd.p w z:=by exactλ_=>rfl) (hst:((v.st.all λq=>(ms.getD q.1 0).testBit i)&&V.all λy=>y.dead != some i)=true:=by kernel_rfl) (hno:(G.all λe=>e.tag != some i)=true:=by kernel_rfl) (hal:(A.all λp=>p.var != v.id||p.tag.any λj=>(ms.getD j 0).testBit i)=true:=by kernel_rfl):
  OpOk P ops ms c V A G i ⟨some d,.alloc T,ty,pos,au,none⟩:=uZ l hl hv hT bT hc hag hn hz lG hp hst hno hal
theorem fP {S f sz:Nat} {fs:List Fd} {q:Pred} (off n:Nat) (ag:Bool) (h:Has ms G i x (cZ sz true (pS fs)):=by exact hs) (hq:xG ag (pz fs off n)=some q:=by exact rfl) (hp:Post G i (cZ n ag q):=by exact pt rfl) (hn:n≠0:=by decide) (hf:∀b o w,(Instr.fieldAt S (.pointer (some ⟨b,o,none⟩)) f).run P w=.ok (.pointer (some ⟨b,o+off,none⟩)) w:=by exactλ_ _ _=>by kernel_rfl)
  (hA:(A.all λq=>q.tag != some i)=true:=by kernel_rfl):OpOk P ops ms c V A G i ⟨some d,.fieldAddr S x f,ty,pos,au,none⟩:=
 bk rfl rfl rfl (.inr hA) hp λL β a w hI hd=>by
  have hr:=h.spec hI hd
  obtain⟨b,o,cs,e,_⟩:=hr.out
  refine⟨.pointer (some ⟨b,o+off,none⟩),w,?_,Below.refl _ _,λw' he=>?_⟩
  ·show(do pure (Next.value (<-Instr.fieldAt S (a.eval x) f))).run P w=_
   rw[e,Sem.run_bind,hf]
   rfl
  ·obtain⟨b',o',cs',e',hl,hc,hp'⟩:=hr w' he
   rw[e]at e'
   injection e' with e'
   injection e' with e'
   injection e' with e1 e2
   subst e1 e2
   obtain⟨ds,e3,hds⟩:=hp'
   have e4:=cw (show ah true cs'=ah true ds from e3)
   subst e4
   cases hs:pz fs off n with
   |none=>rw[hs]at hq; cases ag<;>cases hq
   |some l=>
    rw[hs]at hq
    have hk:=rO hs hds
    have hlen:=hk.2
    rw[if_neg hn]at hlen
    refine⟨b,o+off,(cs'.drop off).take n,rfl,by rw[List.length_take,List.length_drop]; omega,λj u hj=>?_,rB hq hk.1⟩
    rw[List.getElem?_take]at hj
    split at hj
    ·rw[List.getElem?_drop]at hj
     rw[Nat.add_assoc]
     exact hc _ _ hj
    ·cases hj
variable {f:FuncId} {ts:Array TypeId} {p1 q1:Pred}
theorem tB (eZ:φ->∀M w v1,dm M w->aK M (λw=>p1 w v1) w->Calls P f #[v1] w (bX M p w)) (h1:Has ms G i x q1:=by exact hs) (c1:∀w v,q1 w v->p1 w v:=by exact ig) (hp:Post G i p:=by exact pt rfl) (hφ:φ:=by first|omega|trivial) (hf:aA P f:=by exactλ_ _=>by kernel_rfl):
  OpOk P ops ms c V A G i ⟨some d,.call ⟨.value (.func f),#[x],ts⟩,ty,pos,au,none⟩:=sP hf (h1.imp c1) hp (eZ hφ)
theorem mN {p2 q2:Pred} (eZ:φ->∀M w v1 v2,dm M w->aK M (λw=>p1 w v1) w->aK M (λw=>p2 w v2) w->Calls P f #[v1,v2] w (bX M p w)) (h1:Has ms G i x q1:=by exact hs) (c1:∀w v,q1 w v->p1 w v:=by exact ig) (h2:Has ms G i y q2:=by exact hs) (c2:∀w v,q2 w v->p2 w v:=by exact ig) (hp:Post G i p:=by exact pt rfl) (hφ:φ:=by first|omega|trivial) (hf:aA P f:=by exactλ_ _=>by kernel_rfl):
  OpOk P ops ms c V A G i ⟨some d,.call ⟨.value (.func f),#[x,y],ts⟩,ty,pos,au,none⟩:=mg hf (h1.imp c1) (h2.imp c2) hp (eZ hφ)
end
section
variable {P:Program} {Q:Exit->Act->World->Prop} {c:bJ} {V:List Vr} {G:List aI} {a:Act} {w:World}
end
end Wx
