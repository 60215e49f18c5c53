import Derived.Test.YtfnmkhlleanppaaGreatDoorJWC12
namespace Wx
open Go Go.RowKit
def Io (P:Program) (E:TypeId) (n:Nat):Bool:=match P.info? E with
 |some i=>Nat.beq i.size n
 |none=>false
variable {P:Program} {n:Nat}
theorem lZ {E:TypeId} (h:Io P E n=true) (w:World):(Go.sizeOf E).run P w=.ok n w:=by
 unfold Io at h
 split at h
 ·rename_i i hi
  have:=Nat.eq_of_beq_eq_true h
  subst this
  simp[Go.sizeOf,typeInfo,hi]
 ·cases h
def wQ (P:Program) (T:TypeId) (ag:Bool) (n:Nat):Bool:=Io P T n&&((ag||Nat.beq n 1)&&match P.underlying T with
 |some (.struct _)|some (.array _ _)=>ag
 |some _=>!ag
 |none=>false)
variable {T:TypeId} {ag:Bool}
theorem bV (h:wQ P T ag n=true):Ty P T ag n:=by
 unfold wQ at h
 rw[Bool.and_eq_true,Bool.and_eq_true]at h
 obtain⟨h1,h2,h3⟩:=h
 refine⟨λw=>?_,lZ h1,λe=>?_⟩
 ·cases hu:P.underlying T with
  |none=>rw[hu]at h3; cases h3
  |some u=>
   rw[hu]at h3
   have hr:=run_underlying hu w
   simp only[isAgg,Sem.run_bind,hr,Result.andThen_ok]
   cases u<;>simp at h3<;>subst h3<;>rfl
 ·subst e; rw[Bool.false_or]at h2; exact Nat.eq_of_beq_eq_true h2
class CB (P:Program) (T:TypeId) (ag:outParam Bool) (n:outParam Nat):Prop where
 ok:Ty P T ag n
def Il (P:Program) (T:TypeId) (sz:Nat):Bool:=match P.underlying T with
 |some (.slice E)=>Io P E sz
 |_=>false
variable {sz:Nat}
theorem tP (h:Il P T sz=true):∃E,iZ P T E sz:=by
 unfold Il at h
 split at h
 ·rename_i E hE; exact⟨E,hE,lZ h⟩
 ·cases h
def Ey (P:Program) (T:TypeId):Bool:=match P.underlying T with
 |some (.slice _)=>true
 |_=>false
theorem Bl (h:Ey P T=true):∃E,P.underlying T=some (.slice E):=by
 unfold Ey at h
 split at h
 ·rename_i E hE; exact⟨E,hE⟩
 ·cases h
def DJ (P:Program) (T:TypeId) (len sz:Nat):Bool:=match P.underlying T with
 |some (.array n E)=>Nat.beq n len&&Io P E sz
 |_=>false
theorem ko {len:Nat} (h:DJ P T len sz=true) {b off:Nat} {m:Int} (h0:0<=m) (h1:m<len) (w:World):(Instr.indexAt T (.pointer (some ⟨b,off,none⟩)) (.int .i64 m)).run P w=.ok (.pointer (some ⟨b,off+m.toNat*sz,none⟩)) w:=by
 unfold DJ at h
 split at h
 ·rename_i n E hE
  rw[Bool.and_eq_true]at h
  have e:=Nat.eq_of_beq_eq_true h.1
  subst e
  have hu:(underlying T).run P w=.ok (.array n E) w:=run_underlying hE w
  simp only[Instr.indexAt,asIntOf,pure_bind,Sem.run_bind,hu,Result.andThen_ok,Instr.sureAddr]
  rw[if_pos ⟨h0,h1⟩]
  simp only[Sem.run_bind,lZ h.2,Result.andThen_ok,Sem.run_pure,Addr.add_mid]
 ·cases h
variable {p:Pred}
theorem pz (h:Fits n ag p:=by
 first
 |exact pC
 |exact pA
 |exact fits_int _
 |exact fits_bool _
 |exact qW _
 |exact qX _
 |exact mC _ _ _
 |exact aP
 |exact qY _
 |exact uq (λ_=>pC) (by first|rfl|omega|(simp; omega))
 |exact uq (λ_=>pA) (by first|rfl|omega|(simp; omega))
 |exact mB (by repeat' (first|exact trivial|exact pC|exact pA|exact fits_int _|exact fits_bool _|exact mC _ _ _|exact aP|exact qY _|refine⟨?_,?_⟩)) rfl):Fits n ag p:=h
theorem IZ (h:aO p:=by
 first
 |exact jk
 |exact jj
 |exact aV _
 |exact mW λ_=>jk
 |exact mW λ_=>jj
 |exact iI _
 |exact iJ _
 |exact dZ jk (aV _)
 |exact dZ jj (aV _)
 |exact dZ (iI _) (aV _)
 |exact dZ (iJ _) (aV _)):aO p:=h
variable {q:Pred}
theorem jw (h:∀w v,p w v->q w v:=by
 first
 |exactλ_ _ h=>h
 |exact rZ (by omega)
 |exact zD (by omega)
 |exact vm.pV (by repeat' (first|exact vm.z|refine vm.c (by omega) ?_))
 |exactλ_ _ h=>h
 |exactλ_ _ h=>h.2):∀w v,p w v->q w v:=h
variable {i:Nat}
theorem Has.Ky {ms:List Nat} {G:List aN} {x:Operand} {φ ψ:Prop} (h:Has ms G i x (jc (φ/\ψ) q)) (hφ:φ):Has ms G i x (jc ψ q):=
 h.imp λ_ _ k=>⟨λhψ=>k.1 ⟨hφ,hψ⟩,λhψ=>k.2 λhh=>hψ hh.2⟩
theorem I7 {A:List Al} {al:Al} (h:Gf i A=some al) (hn:¬al.cond) (hu:(A.filter λq=>q.tag==some i).length=1):me A i:=by
 obtain⟨⟨k,hk⟩,ht⟩:=Az h
 exact .at_ k hk ht hu hn
def tm:Nat->Nat->List Nat
 |0,_=>[]
 |n+1,k=>k::tm n (2*k+1)
section
variable {P:Program} {ops:Array Oper} {ms:List Nat} {c:bQ} {V:List Vr} {A:List Al} {G:List aN} {i:Nat}{d:Nat} {x y z:Operand} {ty:TypeId} {pos:String} {aft:Array Edge}{T:TypeId} {sz n:Nat} {agg:Bool} {f:Nat->Pred}
theorem Dg (h:Has ms G i x (aI sz agg n f)) (hp:Post G i (pI (n:Int))) (ht:Ey P T=true):
  OpOk P ops ms c V A G i ⟨some d,.call ⟨.builtin .len,#[x],#[T]⟩,ty,pos,aft,none⟩:=(Bl ht).elim λ_ hE=>Fc h hE hp
theorem az {m:Int} (k:Nat) (h:Has ms G i x (aI sz agg n f)) (hy:Has ms G i y (pI m)) (hm:m=(k:Int)) (hp:Post G i (dM sz agg (f k))) (hk:k<n) (ht:Il P T sz=true) (hA:(A.all λq=>q.tag != some i)=true):
  OpOk P ops ms c V A G i ⟨some d,.indexAddr T x y,ty,pos,aft,none⟩:=by
 obtain⟨E,hE⟩:=tP ht
 subst hm
 exact rW h hy hE (by omega) (by omega) hA (by rw[Int.toNat_natCast]; exact hp)
theorem ax {p:Pred} (h:Has ms G i x (dM sz agg p)) (hp:Post G i p) (ht:wQ P T agg sz=true) (hfit:Fits sz agg p):OpOk P ops ms c V A G i ⟨some d,.load T x,ty,pos,aft,none⟩:=
 zm h (bV ht) hfit hp
variable {cb b2:Bool}
theorem Dc (h:Has ms G i x (pB cb)) (hy:Has ms G i y (jc (cb=true) (pB b2))) (hz:Has ms G i z (pB false)) (hp:Post G i (pB (cb&&b2))):OpOk P ops ms c V A G i ⟨some d,.pick x y z,ty,pos,aft,none⟩:=
 qm h (λe=>(hy.F5 e).imp λ_ _ k=>by rw[e]; exact k) (λe=>hz.imp λ_ _ k=>by rw[e]; exact k) hp
theorem HU (h:Has ms G i x (pB cb)) (hy:Has ms G i y (pB true)) (hz:Has ms G i z (jc (cb=false) (pB b2))) (hp:Post G i (pB (cb||b2))):OpOk P ops ms c V A G i ⟨some d,.pick x y z,ty,pos,aft,none⟩:=
 qm h (λe=>hy.imp λ_ _ k=>by rw[e]; exact k) (λe=>(hz.F5 e).imp λ_ _ k=>by rw[e]; exact k) hp
end
end Wx

namespace Wx
open Go Go.RowKit
section
variable {P:Program} {ops:Array Oper} {ms:List Nat} {c:bQ} {V:List Vr} {A:List Al} {G:List aN} {i:Nat}{d:Nat} {x y z:Operand} {ty:TypeId} {pos:String} {aft:Array Edge}{p:Pred}
theorem hs (h:Has ms G i x p:=by
 first
 |exact look rfl
 |exact .const _
 |exact .func _):Has ms G i x p:=h
theorem hg (h:Has ms G i x p:=by
 first
 |exact .const _
 |exact .func _
 |exact Has.F5 (look rfl) (by assumption)
 |exact Has.F5 (look rfl) (And.left (by assumption))
 |exact Has.Ky (look rfl) (by assumption)
 |exact look rfl):Has ms G i x p:=h
variable {φ:Prop}
theorem pg (hc:φ) (h:fZ i G=some (jc φ p)):Post G i p:=M5 hc h
variable {o:Oper}
theorem mv (h:OpOk P ops ms c V A G i o:=by
 first
 |exact uM hs (pt rfl)
 |exact oB hs (pt rfl)):OpOk P ops ms c V A G i o:=h
theorem cy (hc:φ) {o:Oper} (h:φ->OpOk P ops ms c V A G i o:=by
 intro hc
 first
 |exact uM hg (pg hc rfl)
 |exact oB hg (pg hc rfl)):OpOk P ops ms c V A G i o:=h hc
theorem ld (h:OpOk P ops ms c V A G i o:=by
 first
 |exact o_load rfl rfl rfl rfl (pt rfl) (bV (by kernel_rfl))
 |exact zh rfl rfl rfl rfl (by kernel_rfl) rfl CB.ok (yR rfl) trivial (pt rfl) rfl
 |exact ax hs (pt rfl) (by kernel_rfl) pz):OpOk P ops ms c V A G i o:=h
theorem bn (h:OpOk P ops ms c V A G i o:=by
 first
 |exact Di hs hs (pt rfl)
 |exact Dh hs hs (pt rfl)
 |exact Df hs hs (pt rfl)
 |exact De hs hs (pt rfl)
 |exact Dd hs hs (pt rfl)
 |exact Dl hs hs (pt rfl)
 |exact Db hs hs (pt rfl)
 |exact Dm hs hs (pt rfl)
 |exact Dj hs hs (pt rfl)):OpOk P ops ms c V A G i o:=h
theorem fS (hc:φ) {o:Oper} (h:φ->OpOk P ops ms c V A G i o:=by
 intro hc
 first
 |exact Di hg hg (pg hc rfl)
 |exact Dh hg hg (pg hc rfl)
 |exact Df hg hg (pg hc rfl)
 |exact De hg hg (pg hc rfl)
 |exact Dd hg hg (pg hc rfl)
 |exact Dl hg hg (pg hc rfl)
 |exact Db hg hg (pg hc rfl)
 |exact Dm hg hg (pg hc rfl)
 |exact Dj hg hg (pg hc rfl)):OpOk P ops ms c V A G i o:=h hc
theorem nt (h:OpOk P ops ms c V A G i o:=by
 first
 |exact zo hs (pt rfl)):OpOk P ops ms c V A G i o:=h
theorem CN (hc:φ) {o:Oper} (h:φ->OpOk P ops ms c V A G i o:=by
 intro hc
 first
 |exact zo hg (pg hc rfl)):OpOk P ops ms c V A G i o:=h hc
theorem ln (h:OpOk P ops ms c V A G i o:=by
 first
 |exact Dg hs (pt rfl) (by kernel_rfl)):OpOk P ops ms c V A G i o:=h
theorem KX (hc:φ) {o:Oper} (h:φ->OpOk P ops ms c V A G i o:=by
 intro hc
 first
 |exact Dg hg (pg hc rfl) (by kernel_rfl)):OpOk P ops ms c V A G i o:=h hc
theorem ix (h:OpOk P ops ms c V A G i o:=by
 first
 |exact az _ hs hs rfl (pt rfl) (by omega) (by kernel_rfl) (by kernel_rfl)
 |exact az _ hs hs (Int.toNat_of_nonneg (by omega)).symm (pt rfl) (by omega) (by kernel_rfl) (by kernel_rfl)):OpOk P ops ms c V A G i o:=h
theorem ext (h:OpOk P ops ms c V A G i o:=by
 first
 |exact dQ hs Gw (pt rfl)
 |exact dQ hs Gx (pt rfl)
 |exact dQ hs Gy (pt rfl)
 |exact dQ hs GA (pt rfl)
 |exact dQ hs GB (pt rfl)):OpOk P ops ms c V A G i o:=h
theorem pk (h:OpOk P ops ms c V A G i o:=by
 first
 |exact Dc hs hs hs (pt rfl)
 |exact HU hs hs hs (pt rfl)):OpOk P ops ms c V A G i o:=h
theorem GO (hc:φ) {o:Oper} (h:φ->OpOk P ops ms c V A G i o:=by
 intro hc
 first
 |exact Dc hg hg hg (pg hc rfl)
 |exact HU hg hg hg (pg hc rfl)):OpOk P ops ms c V A G i o:=h hc
theorem tW (h:OpOk P ops ms c V A G i o:=by
 first
 |exact fj rfl rfl hs rfl rfl (bV (by kernel_rfl)) pz (by kernel_rfl)
 |exact oz rfl rfl rfl rfl (by kernel_rfl) rfl hs CB.ok (wO rfl) rfl (by kernel_rfl) trivial pz rfl (by kernel_rfl)
 |exact oz rfl rfl rfl rfl (by kernel_rfl) rfl hs CB.ok (wP rfl) rfl (by kernel_rfl) trivial pz rfl (by kernel_rfl)):OpOk P ops ms c V A G i o:=h
theorem bo (h:OpOk P ops ms c V A G i o:=by
 first
 |exact HS rfl rfl rfl hs rfl pz (by kernel_rfl) (by kernel_rfl) (by kernel_rfl)):OpOk P ops ms c V A G i o:=h
variable {j:Nat} {b cb:Bool}
theorem gd {op:Op} {dst:Option Nat} (h:cb=b->OpOk P ops ms c V A G i ⟨dst,op,ty,pos,aft,none⟩) (hq:fZ j G=some (pB cb):=by exact rfl) (hA:¬cb=b->me A i:=by intro hn; first|exact .none rfl|exact I7 rfl hn (by kernel_rfl)) (hp:¬cb=b->Post G i (aG undef):=by intro hn; first|exact Kt hn rfl|exact .none rfl)
  (hj:(G.all λe=>e.tag != some j||((ms.getD i 0).testBit j&&fN ms i e.till))=true:=by kernel_rfl) (hb:(V.all λx=>(x.born != some i&&x.dead != some i)&&x.st.all λq=>q.1 != i)=true:=by kernel_rfl):OpOk P ops ms c V A G i ⟨dst,op,ty,pos,aft,some (j,b)⟩:=Kl hq h hA hp hj hb
theorem sK [Decidable φ] {op:Op} {dst:Option Nat} (h:φ/\cb=b->OpOk P ops ms c V A G i ⟨dst,op,ty,pos,aft,none⟩) (hq:fZ j G=some (jc φ (pB cb)):=by exact rfl) (hA:¬(φ/\cb=b)->me A i:=by intro hn; first|exact .none rfl|exact I7 rfl hn (by kernel_rfl)) (hp:¬(φ/\cb=b)->Post G i (aG undef):=by intro hn; first|exact Kt hn rfl|exact .none rfl)
  (hj:(G.all λe=>e.tag != some j||((ms.getD i 0).testBit j&&fN ms i e.till))=true:=by kernel_rfl) (hb:(V.all λx=>(x.born != some i&&x.dead != some i)&&x.st.all λq=>q.1 != i)=true:=by kernel_rfl):OpOk P ops ms c V A G i ⟨dst,op,ty,pos,aft,some (j,b)⟩:=HT hq h hA hp hj hb
variable {T:TypeId} {v:Vr}
theorem F2 (l:List Zl) (hv:sN i V=some v:=by exact rfl) (hT:v.T=T:=by exact rfl) (bR:v.kd=.ptr:=by exact rfl) (hc:v.c0=pv (pS (l.map Zl.fd)):=by exact rfl) (hag:v.agg=true:=by exact rfl)
  (hz:∀w,(zeroValue T).run P w=.ok (.agg (l.flatMap Zl.cs).toArray) w:=by exactλ_=>by kernel_rfl) (hl:(l.flatMap Zl.cs).length=v.n:=by exact rfl) (hst:((v.st.all λq=>(ms.getD q.1 0).testBit i)&&V.all λy=>y.dead != some i)=true:=by kernel_rfl) (hno:(G.all λe=>e.tag != some i)=true:=by kernel_rfl) (hal:(A.all λp=>p.var != v.id||p.tag.any λj=>(ms.getD j 0).testBit i)=true:=by kernel_rfl):
  OpOk P ops ms c V A G i ⟨some d,.alloc T,ty,pos,aft,none⟩:=BO l hv hT bR hc hag hz hl hst hno hal
theorem HM (l:Zl) {z:Value} (hl:l.cs=[z]:=by exact rfl) (hv:sN i V=some v:=by exact rfl) (hT:v.T=T:=by exact rfl) (bR:v.kd=.ptr:=by exact rfl) (hc:v.c0=pv l.fd.p:=by exact rfl) (hag:v.agg=false:=by exact rfl) (hn:v.n=1:=by exact rfl)
  (hz:∀w,(zeroValue T).run P w=.ok z w:=by exactλ_=>by kernel_rfl) (nO:z.cells=[z].toArray:=by exact rfl) (hp:∀w,l.fd.p w z:=by exactλ_=>rfl) (hst:((v.st.all λq=>(ms.getD q.1 0).testBit i)&&V.all λy=>y.dead != some i)=true:=by kernel_rfl) (hno:(G.all λe=>e.tag != some i)=true:=by kernel_rfl) (hal:(A.all λp=>p.var != v.id||p.tag.any λj=>(ms.getD j 0).testBit i)=true:=by kernel_rfl):
  OpOk P ops ms c V A G i ⟨some d,.alloc T,ty,pos,aft,none⟩:=zf l hl hv hT bR hc hag hn hz nO hp hst hno hal
theorem fP {S f sz:Nat} {fs:List Fd} {q:Pred} (off n:Nat) (ag:Bool) (h:Has ms G i x (dM sz true (pS fs)):=by exact hs) (hq:BS ag (sB fs off n)=some q:=by exact rfl) (hp:Post G i (dM n ag q):=by exact pt rfl) (hn:n≠0:=by decide) (hf:∀b o w,(Instr.fieldAt S (.pointer (some ⟨b,o,none⟩)) f).run P w=.ok (.pointer (some ⟨b,o+off,none⟩)) w:=by exactλ_ _ _=>by kernel_rfl)
  (hA:(A.all λq=>q.tag != some i)=true:=by kernel_rfl):OpOk P ops ms c V A G i ⟨some d,.fieldAddr S x f,ty,pos,aft,none⟩:=
 bD rfl rfl rfl (.inr hA) hp λL β a w hI hd=>by
  have hr:=h.spec hI hd
  obtain⟨b,o,cs,e,_⟩:=hr.out
  refine⟨.pointer (some ⟨b,o+off,none⟩),w,?_,Below.refl _ _,λw' he=>?_⟩
  ·show(do pure (Next.value (<-Instr.fieldAt S (a.eval x) f))).run P w=_
   rw[e,Sem.run_bind,hf]
   rfl
  ·obtain⟨b',o',cs',e',hl,hc,hp'⟩:=hr w' he
   rw[e]at e'
   injection e' with e'
   injection e' with e'
   injection e' with e1 e2
   subst e1 e2
   obtain⟨ds,e3,hds⟩:=hp'
   have e4:=cR (show aq true cs'=aq true ds from e3)
   subst e4
   cases hs:sB fs off n with
   |none=>rw[hs]at hq; cases ag<;>cases hq
   |some l=>
    rw[hs]at hq
    have hk:=vf hs hds
    have hlen:=hk.2
    rw[if_neg hn]at hlen
    refine⟨b,o+off,(cs'.drop off).take n,rfl,by rw[List.length_take,List.length_drop]; omega,λj u hj=>?_,uL hq hk.1⟩
    rw[List.getElem?_take]at hj
    split at hj
    ·rw[List.getElem?_drop]at hj
     rw[Nat.add_assoc]
     exact hc _ _ hj
    ·cases hj
variable {f:FuncId} {ts:Array TypeId} {p1 q1:Pred}
theorem nH (gj:φ->∀M w v1,cS M w->aJ M (λw=>p1 w v1) w->Calls P f #[v1] w (cI M p w)) (h1:Has ms G i x q1:=by exact hs) (c1:∀w v,q1 w v->p1 w v:=by exact jw) (hp:Post G i p:=by exact pt rfl) (hφ:φ:=by first|omega|trivial) (hf:aK P f:=by exactλ_ _=>by kernel_rfl):
  OpOk P ops ms c V A G i ⟨some d,.call ⟨.value (.func f),#[x],ts⟩,ty,pos,aft,none⟩:=wm hf (h1.imp c1) hp (gj hφ)
theorem mz {p2 q2:Pred} (gj:φ->∀M w v1 v2,cS M w->aJ M (λw=>p1 w v1) w->aJ M (λw=>p2 w v2) w->Calls P f #[v1,v2] w (cI M p w)) (h1:Has ms G i x q1:=by exact hs) (c1:∀w v,q1 w v->p1 w v:=by exact jw) (h2:Has ms G i y q2:=by exact hs) (c2:∀w v,q2 w v->p2 w v:=by exact jw) (hp:Post G i p:=by exact pt rfl) (hφ:φ:=by first|omega|trivial) (hf:aK P f:=by exactλ_ _=>by kernel_rfl):
  OpOk P ops ms c V A G i ⟨some d,.call ⟨.value (.func f),#[x,y],ts⟩,ty,pos,aft,none⟩:=oC hf (h1.imp c1) (h2.imp c2) hp (gj hφ)
end
section
variable {P:Program} {Q:Exit->Act->World->Prop} {c:bQ} {V:List Vr} {G:List aN} {a:Act} {w:World}
end
end Wx
