import Derived.Test.YtadigiledciihaaGreatCRDAuto
namespace Wx
open Go Go.RowKit
def NI (P:Program) (E:TypeId) (n:Nat):Bool:=match P.info? E with
 |some i=>Nat.beq i.size n
 |none=>false
variable {P:Program} {n:Nat}
theorem pZ {E:TypeId} (h:NI P E n=true) (w:World):(Go.sizeOf E).run P w=.ok n w:=by
 unfold NI at h
 split at h
 ·rename_i i hi
  have:=Nat.eq_of_beq_eq_true h
  subst this
  simp[Go.sizeOf,typeInfo,hi]
 ·cases h
def F7 (P:Program) (T:TypeId) (ag:Bool) (n:Nat):Bool:=NI P T n&&((ag||Nat.beq n 1)&&match P.underlying T with
 |some (.struct _)|some (.array _ _)=>ag
 |some _=>!ag
 |none=>false)
variable {T:TypeId} {ag:Bool}
theorem cA (h:F7 P T ag n=true):Ty P T ag n:=by
 unfold F7 at h
 rw[Bool.and_eq_true,Bool.and_eq_true]at h
 obtain⟨h1,h2,h3⟩:=h
 refine⟨λw=>?_,pZ h1,λe=>?_⟩
 ·cases hu:P.underlying T with
  |none=>rw[hu]at h3; cases h3
  |some u=>
   rw[hu]at h3
   have hr:=run_underlying hu w
   simp only[isAgg,Sem.run_bind,hr,Result.andThen_ok]
   cases u<;>simp at h3<;>subst h3<;>rfl
 ·subst e; rw[Bool.false_or]at h2; exact Nat.eq_of_beq_eq_true h2
class vN (P:Program) (T:TypeId) (ag:outParam Bool) (n:outParam Nat):Prop where
 ok:Ty P T ag n
def Lc (P:Program) (T:TypeId) (sz:Nat):Bool:=match P.underlying T with
 |some (.slice E)=>NI P E sz
 |_=>false
variable {sz:Nat}
theorem vD (h:Lc P T sz=true):∃E,nQ P T E sz:=by
 unfold Lc at h
 split at h
 ·rename_i E hE; exact⟨E,hE,pZ h⟩
 ·cases h
def GJ (P:Program) (T:TypeId):Bool:=match P.underlying T with
 |some (.slice _)=>true
 |_=>false
theorem A6 (h:GJ P T=true):∃E,P.underlying T=some (.slice E):=by
 unfold GJ at h
 split at h
 ·rename_i E hE; exact⟨E,hE⟩
 ·cases h
def Li (P:Program) (T:TypeId) (len sz:Nat):Bool:=match P.underlying T with
 |some (.array n E)=>Nat.beq n len&&NI P E sz
 |_=>false
theorem vv {len:Nat} (h:Li P T len sz=true) {b off:Nat} {m:Int} (h0:0<=m) (h1:m<len) (w:World):(Instr.indexAt T (.pointer (some ⟨b,off,none⟩)) (.int .i64 m)).run P w=.ok (.pointer (some ⟨b,off+m.toNat*sz,none⟩)) w:=by
 unfold Li at h
 split at h
 ·rename_i n E hE
  rw[Bool.and_eq_true]at h
  have e:=Nat.eq_of_beq_eq_true h.1
  subst e
  have hu:(underlying T).run P w=.ok (.array n E) w:=run_underlying hE w
  simp only[Instr.indexAt,asIntOf,pure_bind,Sem.run_bind,hu,Result.andThen_ok,Instr.sureAddr]
  rw[if_pos ⟨h0,h1⟩]
  simp only[Sem.run_bind,pZ h.2,Result.andThen_ok,Sem.run_pure,Addr.add_mid]
 ·cases h
variable {p:Pred}
theorem sE (h:Fits n ag p:=by
 first
 |exact mQ
 |exact uz
 |exact fits_int _
 |exact fits_bool _
 |exact kp _
 |exact kq _
 |exact qH _ _ _
 |exact kr
 |exact wP _
 |exact pP (λ_=>mQ) (by first|rfl|omega|(simp; omega))
 |exact pP (λ_=>uz) (by first|rfl|omega|(simp; omega))
 |exact nU (by repeat' (first|exact trivial|exact mQ|exact uz|exact fits_int _|exact fits_bool _|exact qH _ _ _|exact kr|exact wP _|refine⟨?_,?_⟩)) rfl):Fits n ag p:=h
theorem Ba (h:au p:=by
 first
 |exact mz
 |exact my
 |exact bY _
 |exact ri λ_=>mz
 |exact ri λ_=>my
 |exact de _
 |exact dg _
 |exact fM mz (bY _)
 |exact fM my (bY _)
 |exact fM (de _) (bY _)
 |exact fM (dg _) (bY _)):au p:=h
variable {q:Pred}
theorem sr (h:∀w v,p w v->q w v:=by
 first
 |exactλ_ _ h=>h
 |exact xL (by omega)
 |exact Br (by omega)
 |exact nL.pV (by repeat' (first|exact nL.z|refine nL.c (by omega) ?_))
 |exactλ_ _ h=>h
 |exactλ_ _ h=>h.2):∀w v,p w v->q w v:=h
variable {i:Nat}
theorem Has.QX {ms:List Nat} {G:List aS} {x:Operand} {φ ψ:Prop} (h:Has ms G i x (sK (φ/\ψ) q)) (hφ:φ):Has ms G i x (sK ψ q):=
 h.imp λ_ _ k=>⟨λhψ=>k.1 ⟨hφ,hψ⟩,λhψ=>k.2 λhh=>hψ hh.2⟩
theorem SR {A:List Al} {al:Al} (h:Gf i A=some al) (hn:¬al.cond) (hu:(A.filter λq=>q.tag==some i).length=1):yA A i:=by
 obtain⟨⟨k,hk⟩,ht⟩:=mH h
 exact .at_ k hk ht hu hn
def tm:Nat->Nat->List Nat
 |0,_=>[]
 |n+1,k=>k::tm n (2*k+1)
section
variable {P:Program} {ops:Array Oper} {ms:List Nat} {c:cT} {V:List Vr} {A:List Al} {G:List aS} {i:Nat}{d:Nat} {x y z:Operand} {ty:TypeId} {pos:String} {aJ:Array Edge}{T:TypeId} {sz n:Nat} {agg:Bool} {f:Nat->Pred}
theorem Ja (h:Has ms G i x (ck sz agg n f)) (hp:Post G i (pI (n:Int))) (ht:GJ P T=true):
  OpOk P ops ms c V A G i ⟨some d,.call ⟨.builtin .len,#[x],#[T]⟩,ty,pos,aJ,none⟩:=(A6 ht).elim λ_ hE=>KN h hE hp
theorem js {m:Int} (k:Nat) (h:Has ms G i x (ck sz agg n f)) (hy:Has ms G i y (pI m)) (hm:m=(k:Int)) (hp:Post G i (dK sz agg (f k))) (hk:k<n) (ht:Lc P T sz=true) (hA:(A.all λq=>q.tag != some i)=true):
  OpOk P ops ms c V A G i ⟨some d,.indexAddr T x y,ty,pos,aJ,none⟩:=by
 obtain⟨E,hE⟩:=vD ht
 subst hm
 exact xJ h hy hE (by omega) (by omega) hA (by rw[Int.toNat_natCast]; exact hp)
theorem pX {p:Pred} (h:Has ms G i x (dK sz agg p)) (hp:Post G i p) (ht:F7 P T agg sz=true) (hfit:Fits sz agg p):OpOk P ops ms c V A G i ⟨some d,.load T x,ty,pos,aJ,none⟩:=
 ET h (cA ht) hfit hp
variable {cb b2:Bool}
theorem Nt (h:Has ms G i x (pB cb)) (hy:Has ms G i y (sK (cb=true) (pB b2))) (hz:Has ms G i z (pB false)) (hp:Post G i (pB (cb&&b2))):OpOk P ops ms c V A G i ⟨some d,.pick x y z,ty,pos,aJ,none⟩:=
 Bn h (λe=>(hy.Lt e).imp λ_ _ k=>by rw[e]; exact k) (λe=>hz.imp λ_ _ k=>by rw[e]; exact k) hp
theorem QK (h:Has ms G i x (pB cb)) (hy:Has ms G i y (pB true)) (hz:Has ms G i z (sK (cb=false) (pB b2))) (hp:Post G i (pB (cb||b2))):OpOk P ops ms c V A G i ⟨some d,.pick x y z,ty,pos,aJ,none⟩:=
 Bn h (λe=>hy.imp λ_ _ k=>by rw[e]; exact k) (λe=>(hz.Lt e).imp λ_ _ k=>by rw[e]; exact k) hp
end
end Wx

namespace Wx
open Go Go.RowKit
section
variable {P:Program} {ops:Array Oper} {ms:List Nat} {c:cT} {V:List Vr} {A:List Al} {G:List aS} {i:Nat}{d:Nat} {x y z:Operand} {ty:TypeId} {pos:String} {aJ:Array Edge}{p:Pred}
theorem hs (h:Has ms G i x p:=by
 first
 |exact look rfl
 |exact .const _
 |exact .func _):Has ms G i x p:=h
theorem hg (h:Has ms G i x p:=by
 first
 |exact .const _
 |exact .func _
 |exact Has.Lt (look rfl) (by assumption)
 |exact Has.Lt (look rfl) (And.left (by assumption))
 |exact Has.QX (look rfl) (by assumption)
 |exact look rfl):Has ms G i x p:=h
variable {φ:Prop}
theorem pg (hc:φ) (h:lS i G=some (sK φ p)):Post G i p:=Uw hc h
variable {o:Oper}
theorem mv (h:OpOk P ops ms c V A G i o:=by
 first
 |exact bj hs (pt rfl)
 |exact cC hs (pt rfl)):OpOk P ops ms c V A G i o:=h
theorem mG (hc:φ) {o:Oper} (h:φ->OpOk P ops ms c V A G i o:=by
 intro hc
 first
 |exact bj hg (pg hc rfl)
 |exact cC hg (pg hc rfl)):OpOk P ops ms c V A G i o:=h hc
theorem ld (h:OpOk P ops ms c V A G i o:=by
 first
 |exact o_load rfl rfl rfl rfl (pt rfl) (cA (by kernel_rfl))
 |exact ru rfl rfl rfl rfl (by kernel_rfl) rfl vN.ok (xp rfl) trivial (pt rfl) rfl
 |exact pX hs (pt rfl) (by kernel_rfl) sE):OpOk P ops ms c V A G i o:=h
theorem mR (hc:φ) {o:Oper} (h:φ->OpOk P ops ms c V A G i o:=by
 intro hc
 first
 |exact o_load rfl rfl rfl rfl (pg hc rfl) (cA (by kernel_rfl))
 |exact ru rfl rfl rfl rfl (by kernel_rfl) rfl vN.ok (xp rfl) (by first|exact trivial|exact hc) (pg hc rfl) rfl
 |exact pX hg (pg hc rfl) (by kernel_rfl) sE):OpOk P ops ms c V A G i o:=h hc
theorem bn (h:OpOk P ops ms c V A G i o:=by
 first
 |exact Jc hs hs (pt rfl)
 |exact Jb hs hs (pt rfl)
 |exact I9 hs hs (pt rfl)
 |exact I8 hs hs (pt rfl)
 |exact I7 hs hs (pt rfl)
 |exact Je hs hs (pt rfl)
 |exact I6 hs hs (pt rfl)
 |exact Jg hs hs (pt rfl)
 |exact Jd hs hs (pt rfl)):OpOk P ops ms c V A G i o:=h
theorem su (hc:φ) {o:Oper} (h:φ->OpOk P ops ms c V A G i o:=by
 intro hc
 first
 |exact Jc hg hg (pg hc rfl)
 |exact Jb hg hg (pg hc rfl)
 |exact I9 hg hg (pg hc rfl)
 |exact I8 hg hg (pg hc rfl)
 |exact I7 hg hg (pg hc rfl)
 |exact Je hg hg (pg hc rfl)
 |exact I6 hg hg (pg hc rfl)
 |exact Jg hg hg (pg hc rfl)
 |exact Jd hg hg (pg hc rfl)):OpOk P ops ms c V A G i o:=h hc
theorem nt (h:OpOk P ops ms c V A G i o:=by
 first
 |exact EV hs (pt rfl)):OpOk P ops ms c V A G i o:=h
theorem S9 (hc:φ) {o:Oper} (h:φ->OpOk P ops ms c V A G i o:=by
 intro hc
 first
 |exact EV hg (pg hc rfl)):OpOk P ops ms c V A G i o:=h hc
theorem ln (h:OpOk P ops ms c V A G i o:=by
 first
 |exact Ja hs (pt rfl) (by kernel_rfl)):OpOk P ops ms c V A G i o:=h
theorem O4 (hc:φ) {o:Oper} (h:φ->OpOk P ops ms c V A G i o:=by
 intro hc
 first
 |exact Ja hg (pg hc rfl) (by kernel_rfl)):OpOk P ops ms c V A G i o:=h hc
theorem fa (h:OpOk P ops ms c V A G i o:=by
 first
 |exact Bc rfl rfl rfl rfl rfl (λ_ _=>by kernel_rfl) rfl (by kernel_rfl) (by kernel_rfl)
 |exact tJ rfl rfl rfl rfl rfl rfl (λ_ _=>by kernel_rfl) rfl trivial (by kernel_rfl) (by kernel_rfl)
 |exact Be rfl rfl rfl rfl rfl hs (λ_ _=>by kernel_rfl) rfl (by kernel_rfl) (by kernel_rfl)
 |exact tK rfl rfl rfl rfl rfl rfl hs (λ_ _=>by kernel_rfl) rfl trivial (by kernel_rfl) (by kernel_rfl)):OpOk P ops ms c V A G i o:=h
theorem B9 (hc:φ) {o:Oper} (h:φ->OpOk P ops ms c V A G i o:=by
 intro hc
 first
 |exact Bc rfl rfl rfl rfl rfl (λ_ _=>by kernel_rfl) rfl (by kernel_rfl) (by kernel_rfl)
 |exact tJ rfl rfl rfl rfl rfl rfl (λ_ _=>by kernel_rfl) rfl (by first|exact trivial|exact hc) (by kernel_rfl) (by kernel_rfl)
 |exact Be rfl rfl rfl rfl rfl hg (λ_ _=>by kernel_rfl) rfl (by kernel_rfl) (by kernel_rfl)
 |exact tK rfl rfl rfl rfl rfl rfl hg (λ_ _=>by kernel_rfl) rfl (by first|exact trivial|exact hc) (by kernel_rfl) (by kernel_rfl)):OpOk P ops ms c V A G i o:=h hc
theorem ix (h:OpOk P ops ms c V A G i o:=by
 first
 |exact js _ hs hs rfl (pt rfl) (by omega) (by kernel_rfl) (by kernel_rfl)
 |exact js _ hs hs (Int.toNat_of_nonneg (by omega)).symm (pt rfl) (by omega) (by kernel_rfl) (by kernel_rfl)):OpOk P ops ms c V A G i o:=h
theorem Gq (hc:φ) {o:Oper} (h:φ->OpOk P ops ms c V A G i o:=by
 intro hc
 first
 |exact js _ hg hg rfl (pg hc rfl) (by omega) (by kernel_rfl) (by kernel_rfl)
 |exact js _ hg hg (Int.toNat_of_nonneg (by omega)).symm (pg hc rfl) (by omega) (by kernel_rfl) (by kernel_rfl)):OpOk P ops ms c V A G i o:=h hc
theorem ext (h:OpOk P ops ms c V A G i o:=by
 first
 |exact gw hs LW (pt rfl)
 |exact gw hs LX (pt rfl)
 |exact gw hs LY (pt rfl)
 |exact gw hs LZ (pt rfl)
 |exact gw hs L3 (pt rfl)):OpOk P ops ms c V A G i o:=h
theorem pk (h:OpOk P ops ms c V A G i o:=by
 first
 |exact Nt hs hs hs (pt rfl)
 |exact QK hs hs hs (pt rfl)):OpOk P ops ms c V A G i o:=h
theorem pz (h:OpOk P ops ms c V A G i o:=by
 first
 |exact Bf rfl rfl hs rfl rfl (cA (by kernel_rfl)) sE (by kernel_rfl)
 |exact tL rfl rfl rfl rfl (by kernel_rfl) rfl hs vN.ok (C8 rfl) rfl (by kernel_rfl) trivial sE rfl (by kernel_rfl)
 |exact tL rfl rfl rfl rfl (by kernel_rfl) rfl hs vN.ok (C9 rfl) rfl (by kernel_rfl) trivial sE rfl (by kernel_rfl)):OpOk P ops ms c V A G i o:=h
theorem bo (h:OpOk P ops ms c V A G i o:=by
 first
 |exact Nu rfl rfl rfl hs rfl sE (by kernel_rfl) (by kernel_rfl) (by kernel_rfl)):OpOk P ops ms c V A G i o:=h
theorem gd {j:Nat} {b cb:Bool} {op:Op} {dst:Option Nat} (h:cb=b->OpOk P ops ms c V A G i ⟨dst,op,ty,pos,aJ,none⟩) (hq:lS j G=some (pB cb):=by exact rfl) (hA:¬cb=b->yA A i:=by intro hn; first|exact .none rfl|exact SR rfl hn (by kernel_rfl)) (hp:¬cb=b->Post G i (bK undef):=by intro hn; first|exact Uv hn rfl|exact .none rfl)
  (hj:(G.all λe=>e.tag != some j||((ms.getD i 0).testBit j&&kM ms i e.till))=true:=by kernel_rfl) (hb:(V.all λx=>(x.born != some i&&x.dead != some i)&&x.st.all λq=>q.1 != i)=true:=by kernel_rfl):OpOk P ops ms c V A G i ⟨dst,op,ty,pos,aJ,some (j,b)⟩:=QJ hq h hA hp hj hb
variable {T:TypeId} {v:Vr}
theorem xy (l:List Zl) (hv:De i V=some v:=by exact rfl) (hT:v.T=T:=by exact rfl) (cq:v.kd=.ptr:=by exact rfl) (hc:v.c0=pv (pS (l.map Zl.fd)):=by exact rfl) (Cb:v.agg=true:=by exact rfl)
  (hz:∀w,(zeroValue T).run P w=.ok (.agg (l.flatMap Zl.cs).toArray) w:=by exactλ_=>by kernel_rfl) (hl:(l.flatMap Zl.cs).length=v.n:=by exact rfl) (hst:((v.st.all λq=>(ms.getD q.1 0).testBit i)&&V.all λy=>y.dead != some i)=true:=by kernel_rfl) (hno:(G.all λe=>e.tag != some i)=true:=by kernel_rfl) (fo:(A.all λp=>p.var != v.id||p.tag.any λj=>(ms.getD j 0).testBit i)=true:=by kernel_rfl):
  OpOk P ops ms c V A G i ⟨some d,.alloc T,ty,pos,aJ,none⟩:=G6 l hv hT cq hc Cb hz hl hst hno fo
theorem KG (l:Zl) {z:Value} (hl:l.cs=[z]:=by exact rfl) (hv:De i V=some v:=by exact rfl) (hT:v.T=T:=by exact rfl) (cq:v.kd=.ptr:=by exact rfl) (hc:v.c0=pv l.fd.p:=by exact rfl) (Cb:v.agg=false:=by exact rfl) (hn:v.n=1:=by exact rfl)
  (hz:∀w,(zeroValue T).run P w=.ok z w:=by exactλ_=>by kernel_rfl) (uL:z.cells=[z].toArray:=by exact rfl) (hp:∀w,l.fd.p w z:=by exactλ_=>rfl) (hst:((v.st.all λq=>(ms.getD q.1 0).testBit i)&&V.all λy=>y.dead != some i)=true:=by kernel_rfl) (hno:(G.all λe=>e.tag != some i)=true:=by kernel_rfl) (fo:(A.all λp=>p.var != v.id||p.tag.any λj=>(ms.getD j 0).testBit i)=true:=by kernel_rfl):
  OpOk P ops ms c V A G i ⟨some d,.alloc T,ty,pos,aJ,none⟩:=EM l hl hv hT cq hc Cb hn hz uL hp hst hno fo
theorem fP {S f sz:Nat} {fs:List Fd} {q:Pred} (off n:Nat) (ag:Bool) (h:Has ms G i x (dK sz true (pS fs)):=by exact hs) (hq:EN ag (vF fs off n)=some q:=by exact rfl) (hp:Post G i (dK n ag q):=by exact pt rfl) (hn:n≠0:=by decide) (hf:∀b o w,(Instr.fieldAt S (.pointer (some ⟨b,o,none⟩)) f).run P w=.ok (.pointer (some ⟨b,o+off,none⟩)) w:=by exactλ_ _ _=>by kernel_rfl)
  (hA:(A.all λq=>q.tag != some i)=true:=by kernel_rfl):OpOk P ops ms c V A G i ⟨some d,.fieldAddr S x f,ty,pos,aJ,none⟩:=
 cF rfl rfl rfl (.inr hA) hp λL β a w hI hd=>by
  have hr:=h.spec hI hd
  obtain⟨b,o,cs,e,_⟩:=hr.out
  refine⟨.pointer (some ⟨b,o+off,none⟩),w,?_,Below.refl _ _,λw' he=>?_⟩
  ·show(do pure (Next.value (<-Instr.fieldAt S (a.eval x) f))).run P w=_
   rw[e,Sem.run_bind,hf]
   rfl
  ·obtain⟨b',o',cs',e',hl,hc,hp'⟩:=hr w' he
   rw[e]at e'
   injection e' with e'
   injection e' with e'
   injection e' with e1 e2
   subst e1 e2
   obtain⟨ds,e3,hds⟩:=hp'
   have e4:=bW (show ak true cs'=ak true ds from e3)
   subst e4
   cases hs:vF fs off n with
   |none=>rw[hs]at hq; cases ag<;>cases hq
   |some l=>
    rw[hs]at hq
    have hk:=BC hs hds
    have hlen:=hk.2
    rw[if_neg hn]at hlen
    refine⟨b,o+off,(cs'.drop off).take n,rfl,by rw[List.length_take,List.length_drop]; omega,λj u hj=>?_,Bi hq hk.1⟩
    rw[List.getElem?_take]at hj
    split at hj
    ·rw[List.getElem?_drop]at hj
     rw[Nat.add_assoc]
     exact hc _ _ hj
    ·cases hj
variable {f:FuncId} {ts:Array TypeId} {p1 q1:Pred}
theorem Dk (ic:φ->∀w v1,p1 w v1->Calls P f #[v1] w (eJ p w)) (h1:Has ms G i x q1:=by exact hs) (c1:∀w v,q1 w v->p1 w v:=by exact sr) (hp:Post G i p:=by exact pt rfl) (hφ:φ:=by first|omega|trivial) (hn:au p:=by exact Ba) (hf:aK P f:=by exactλ_ _=>by kernel_rfl):
  OpOk P ops ms c V A G i ⟨some d,.call ⟨.value (.func f),#[x],ts⟩,ty,pos,aJ,none⟩:=fh hf hn (h1.imp c1) hp (ic hφ)
variable {p2 q2:Pred}
theorem DL (ic:φ->∀w v1 v2,p1 w v1->p2 w v2->Calls P f #[v1,v2] w (eJ p w)) (h1:Has ms G i x q1:=by exact hs) (c1:∀w v,q1 w v->p1 w v:=by exact sr) (h2:Has ms G i y q2:=by exact hs) (c2:∀w v,q2 w v->p2 w v:=by exact sr) (hp:Post G i p:=by exact pt rfl) (hφ:φ:=by first|omega|trivial) (hn:au p:=by exact Ba) (hf:aK P f:=by exactλ_ _=>by kernel_rfl):
  OpOk P ops ms c V A G i ⟨some d,.call ⟨.value (.func f),#[x,y],ts⟩,ty,pos,aJ,none⟩:=cw hf hn (h1.imp c1) (h2.imp c2) hp (ic hφ)
theorem BU (ic:φ->∀M w v1,dD M w->aN M (λw=>p1 w v1) w->Calls P f #[v1] w (bX M p w)) (h1:Has ms G i x q1:=by exact hs) (c1:∀w v,q1 w v->p1 w v:=by exact sr) (hp:Post G i p:=by exact pt rfl) (hφ:φ:=by first|omega|trivial) (hf:aK P f:=by exactλ_ _=>by kernel_rfl):
  OpOk P ops ms c V A G i ⟨some d,.call ⟨.value (.func f),#[x],ts⟩,ty,pos,aJ,none⟩:=CK hf (h1.imp c1) hp (ic hφ)
theorem Gg (ic:φ->∀M w v1 v2,dD M w->aN M (λw=>p1 w v1) w->aN M (λw=>p2 w v2) w->Calls P f #[v1,v2] w (bX M p w)) (h1:Has ms G i x q1:=by exact hs) (c1:∀w v,q1 w v->p1 w v:=by exact sr) (h2:Has ms G i y q2:=by exact hs) (c2:∀w v,q2 w v->p2 w v:=by exact sr) (hp:Post G i p:=by exact pt rfl) (hφ:φ:=by first|omega|trivial) (hf:aK P f:=by exactλ_ _=>by kernel_rfl):
  OpOk P ops ms c V A G i ⟨some d,.call ⟨.value (.func f),#[x,y],ts⟩,ty,pos,aJ,none⟩:=tN hf (h1.imp c1) (h2.imp c2) hp (ic hφ)
end
section
variable {P:Program} {Q:Exit->Act->World->Prop} {c:cT} {V:List Vr} {G:List aS} {a:Act} {w:World}
end
end Wx
