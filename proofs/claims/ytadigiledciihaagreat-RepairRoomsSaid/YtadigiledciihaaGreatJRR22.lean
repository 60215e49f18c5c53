import Derived.Test.YtadigiledciihaaGreatJRR21
namespace Wx
open Go Go.RowKit
def Nj (P:Program) (E:TypeId) (n:Nat):Bool:=match P.info? E with
 |some i=>Nat.beq i.size n
 |none=>false
variable {P:Program} {n:Nat}
theorem qj {E:TypeId} (h:Nj P E n=true) (w:World):(Go.sizeOf E).run P w=.ok n w:=by
 unfold Nj at h
 split at h
 ·rename_i i hi
  have:=Nat.eq_of_beq_eq_true h
  subst this
  simp[Go.sizeOf,typeInfo,hi]
 ·cases h
def Fv (P:Program) (T:TypeId) (ag:Bool) (n:Nat):Bool:=Nj P T n&&((ag||Nat.beq n 1)&&match P.underlying T with
 |some (.struct _)|some (.array _ _)=>ag
 |some _=>!ag
 |none=>false)
variable {T:TypeId} {ag:Bool}
theorem cH (h:Fv P T ag n=true):Ty P T ag n:=by
 unfold Fv at h
 rw[Bool.and_eq_true,Bool.and_eq_true]at h
 obtain⟨h1,h2,h3⟩:=h
 refine⟨λw=>?_,qj h1,λe=>?_⟩
 ·cases hu:P.underlying T with
  |none=>rw[hu]at h3; cases h3
  |some u=>
   rw[hu]at h3
   have hr:=run_underlying hu w
   simp only[isAgg,Sem.run_bind,hr,Result.andThen_ok]
   cases u<;>simp at h3<;>subst h3<;>rfl
 ·subst e; rw[Bool.false_or]at h2; exact Nat.eq_of_beq_eq_true h2
class vG (P:Program) (T:TypeId) (ag:outParam Bool) (n:outParam Nat):Prop where
 ok:Ty P T ag n
def KJ (P:Program) (T:TypeId) (sz:Nat):Bool:=match P.underlying T with
 |some (.slice E)=>Nj P E sz
 |_=>false
variable {sz:Nat}
theorem vm (h:KJ P T sz=true):∃E,od P T E sz:=by
 unfold KJ at h
 split at h
 ·rename_i E hE; exact⟨E,hE,qj h⟩
 ·cases h
def Gf (P:Program) (T:TypeId):Bool:=match P.underlying T with
 |some (.slice _)=>true
 |_=>false
theorem Aq (h:Gf P T=true):∃E,P.underlying T=some (.slice E):=by
 unfold Gf at h
 split at h
 ·rename_i E hE; exact⟨E,hE⟩
 ·cases h
def KQ (P:Program) (T:TypeId) (len sz:Nat):Bool:=match P.underlying T with
 |some (.array n E)=>Nat.beq n len&&Nj P E sz
 |_=>false
theorem u6 {len:Nat} (h:KQ P T len sz=true) {b off:Nat} {m:Int} (h0:0<=m) (h1:m<len) (w:World):(Instr.indexAt T (.pointer (some ⟨b,off,none⟩)) (.int .i64 m)).run P w=.ok (.pointer (some ⟨b,off+m.toNat*sz,none⟩)) w:=by
 unfold KQ at h
 split at h
 ·rename_i n E hE
  rw[Bool.and_eq_true]at h
  have e:=Nat.eq_of_beq_eq_true h.1
  subst e
  have hu:(underlying T).run P w=.ok (.array n E) w:=run_underlying hE w
  simp only[Instr.indexAt,asIntOf,pure_bind,Sem.run_bind,hu,Result.andThen_ok,Instr.sureAddr]
  rw[if_pos ⟨h0,h1⟩]
  simp only[Sem.run_bind,qj h.2,Result.andThen_ok,Sem.run_pure,Addr.add_mid]
 ·cases h
variable {p:Pred}
theorem sH (h:Fits n ag p:=by
 first
 |exact nc
 |exact uA
 |exact fits_int _
 |exact fits_bool _
 |exact kM _
 |exact kN _
 |exact qO _ _ _
 |exact kO
 |exact wP _
 |exact p8 (λ_=>nc) (by first|rfl|omega|(simp; omega))
 |exact p8 (λ_=>uA) (by first|rfl|omega|(simp; omega))
 |exact oq (by repeat' (first|exact trivial|exact nc|exact uA|exact fits_int _|exact fits_bool _|exact qO _ _ _|exact kO|exact wP _|refine⟨?_,?_⟩)) rfl):Fits n ag p:=h
theorem y6 (h:aA p:=by
 first
 |exact mH
 |exact mG
 |exact cm _
 |exact ry λ_=>mH
 |exact ry λ_=>mG
 |exact dy _
 |exact dz _
 |exact gC mH (cm _)
 |exact gC mG (cm _)
 |exact gC (dy _) (cm _)
 |exact gC (dz _) (cm _)):aA p:=h
variable {q:Pred}
theorem l7 (h:∀w v,p w v->q w v:=by
 first
 |exactλ_ _ h=>h
 |exact xB (by omega)
 |exact AK (by omega)
 |exact nY.pV (by repeat' (first|exact nY.z|refine nY.c (by omega) ?_))
 |exactλ_ _ h=>h
 |exactλ_ _ h=>h.2):∀w v,p w v->q w v:=h
variable {i:Nat}
theorem Has.QD {ms:List Nat} {G:List aV} {x:Operand} {φ ψ:Prop} (h:Has ms G i x (oD (φ/\ψ) q)) (hφ:φ):Has ms G i x (oD ψ q):=
 h.imp λ_ _ k=>⟨λhψ=>k.1 ⟨hφ,hψ⟩,λhψ=>k.2 λhh=>hψ hh.2⟩
theorem Rc {A:List Al} {al:Al} (h:FB i A=some al) (hn:¬al.cond) (hu:(A.filter λq=>q.tag==some i).length=1):sB A i:=by
 obtain⟨⟨k,hk⟩,ht⟩:=mR h
 exact .at_ k hk ht hu hn
def tm:Nat->Nat->List Nat
 |0,_=>[]
 |n+1,k=>k::tm n (2*k+1)
section
variable {P:Program} {ops:Array Oper} {ms:List Nat} {c:dg} {V:List Vr} {A:List Al} {G:List aV} {i:Nat}{d:Nat} {x y z:Operand} {ty:TypeId} {pos:String} {aO:Array Edge}{T:TypeId} {sz n:Nat} {agg:Bool} {f:Nat->Pred}
theorem IG (h:Has ms G i x (cA sz agg n f)) (hp:Post G i (pI (n:Int))) (ht:Gf P T=true):
  OpOk P ops ms c V A G i ⟨some d,.call ⟨.builtin .len,#[x],#[T]⟩,ty,pos,aO,none⟩:=(Aq ht).elim λ_ hE=>Km h hE hp
theorem jH {m:Int} (k:Nat) (h:Has ms G i x (cA sz agg n f)) (hy:Has ms G i y (pI m)) (hm:m=(k:Int)) (hp:Post G i (dR sz agg (f k))) (hk:k<n) (ht:KJ P T sz=true) (hA:(A.all λq=>q.tag != some i)=true):
  OpOk P ops ms c V A G i ⟨some d,.indexAddr T x y,ty,pos,aO,none⟩:=by
 obtain⟨E,hE⟩:=vm ht
 subst hm
 exact xA h hy hE (by omega) (by omega) hA (by rw[Int.toNat_natCast]; exact hp)
theorem qf {p:Pred} (h:Has ms G i x (dR sz agg p)) (hp:Post G i p) (ht:Fv P T agg sz=true) (hfit:Fits sz agg p):OpOk P ops ms c V A G i ⟨some d,.load T x,ty,pos,aO,none⟩:=
 Ef h (cH ht) hfit hp
variable {cb b2:Bool}
theorem IC (h:Has ms G i x (pB cb)) (hy:Has ms G i y (oD (cb=true) (pB b2))) (hz:Has ms G i z (pB false)) (hp:Post G i (pB (cb&&b2))):OpOk P ops ms c V A G i ⟨some d,.pick x y z,ty,pos,aO,none⟩:=
 AG h (λe=>(hy.K5 e).imp λ_ _ k=>by rw[e]; exact k) (λe=>hz.imp λ_ _ k=>by rw[e]; exact k) hp
theorem M6 (h:Has ms G i x (pB cb)) (hy:Has ms G i y (pB true)) (hz:Has ms G i z (oD (cb=false) (pB b2))) (hp:Post G i (pB (cb||b2))):OpOk P ops ms c V A G i ⟨some d,.pick x y z,ty,pos,aO,none⟩:=
 AG h (λe=>hy.imp λ_ _ k=>by rw[e]; exact k) (λe=>(hz.K5 e).imp λ_ _ k=>by rw[e]; exact k) hp
end
end Wx

namespace Wx
open Go Go.RowKit
section
variable {P:Program} {ops:Array Oper} {ms:List Nat} {c:dg} {V:List Vr} {A:List Al} {G:List aV} {i:Nat}{d:Nat} {x y z:Operand} {ty:TypeId} {pos:String} {aO:Array Edge}{p:Pred}
theorem hs (h:Has ms G i x p:=by
 first
 |exact look rfl
 |exact .const _
 |exact .func _):Has ms G i x p:=h
theorem hg (h:Has ms G i x p:=by
 first
 |exact .const _
 |exact .func _
 |exact Has.K5 (look rfl) (by assumption)
 |exact Has.K5 (look rfl) (And.left (by assumption))
 |exact Has.QD (look rfl) (by assumption)
 |exact look rfl):Has ms G i x p:=h
variable {φ:Prop}
theorem pg (hc:φ) (h:jY i G=some (oD φ p)):Post G i p:=Ug hc h
variable {o:Oper}
theorem mv (h:OpOk P ops ms c V A G i o:=by
 first
 |exact bz hs (pt rfl)
 |exact cL hs (pt rfl)):OpOk P ops ms c V A G i o:=h
theorem fl (hc:φ) {o:Oper} (h:φ->OpOk P ops ms c V A G i o:=by
 intro hc
 first
 |exact bz hg (pg hc rfl)
 |exact cL hg (pg hc rfl)):OpOk P ops ms c V A G i o:=h hc
theorem ld (h:OpOk P ops ms c V A G i o:=by
 first
 |exact o_load rfl rfl rfl rfl (pt rfl) (cH (by kernel_rfl))
 |exact rA rfl rfl rfl rfl (by kernel_rfl) rfl vG.ok (xh rfl) trivial (pt rfl) rfl
 |exact qf hs (pt rfl) (by kernel_rfl) sH):OpOk P ops ms c V A G i o:=h
theorem jC (hc:φ) {o:Oper} (h:φ->OpOk P ops ms c V A G i o:=by
 intro hc
 first
 |exact o_load rfl rfl rfl rfl (pg hc rfl) (cH (by kernel_rfl))
 |exact rA rfl rfl rfl rfl (by kernel_rfl) rfl vG.ok (xh rfl) (by first|exact trivial|exact hc) (pg hc rfl) rfl
 |exact qf hg (pg hc rfl) (by kernel_rfl) sH):OpOk P ops ms c V A G i o:=h hc
theorem bn (h:OpOk P ops ms c V A G i o:=by
 first
 |exact IJ hs hs (pt rfl)
 |exact II hs hs (pt rfl)
 |exact IF hs hs (pt rfl)
 |exact IE hs hs (pt rfl)
 |exact ID hs hs (pt rfl)
 |exact IL hs hs (pt rfl)
 |exact IB hs hs (pt rfl)
 |exact IP hs hs (pt rfl)
 |exact IK hs hs (pt rfl)):OpOk P ops ms c V A G i o:=h
theorem nh (hc:φ) {o:Oper} (h:φ->OpOk P ops ms c V A G i o:=by
 intro hc
 first
 |exact IJ hg hg (pg hc rfl)
 |exact II hg hg (pg hc rfl)
 |exact IF hg hg (pg hc rfl)
 |exact IE hg hg (pg hc rfl)
 |exact ID hg hg (pg hc rfl)
 |exact IL hg hg (pg hc rfl)
 |exact IB hg hg (pg hc rfl)
 |exact IP hg hg (pg hc rfl)
 |exact IK hg hg (pg hc rfl)):OpOk P ops ms c V A G i o:=h hc
theorem nt (h:OpOk P ops ms c V A G i o:=by
 first
 |exact Eh hs (pt rfl)):OpOk P ops ms c V A G i o:=h
theorem OL (hc:φ) {o:Oper} (h:φ->OpOk P ops ms c V A G i o:=by
 intro hc
 first
 |exact Eh hg (pg hc rfl)):OpOk P ops ms c V A G i o:=h hc
theorem ln (h:OpOk P ops ms c V A G i o:=by
 first
 |exact IG hs (pt rfl) (by kernel_rfl)):OpOk P ops ms c V A G i o:=h
theorem OJ (hc:φ) {o:Oper} (h:φ->OpOk P ops ms c V A G i o:=by
 intro hc
 first
 |exact IG hg (pg hc rfl) (by kernel_rfl)):OpOk P ops ms c V A G i o:=h hc
theorem fa (h:OpOk P ops ms c V A G i o:=by
 first
 |exact Ay rfl rfl rfl rfl rfl (λ_ _=>by kernel_rfl) rfl (by kernel_rfl) (by kernel_rfl)
 |exact tL rfl rfl rfl rfl rfl rfl (λ_ _=>by kernel_rfl) rfl trivial (by kernel_rfl) (by kernel_rfl)
 |exact Az rfl rfl rfl rfl rfl hs (λ_ _=>by kernel_rfl) rfl (by kernel_rfl) (by kernel_rfl)
 |exact tM rfl rfl rfl rfl rfl rfl hs (λ_ _=>by kernel_rfl) rfl trivial (by kernel_rfl) (by kernel_rfl)):OpOk P ops ms c V A G i o:=h
theorem FT (hc:φ) {o:Oper} (h:φ->OpOk P ops ms c V A G i o:=by
 intro hc
 first
 |exact Ay rfl rfl rfl rfl rfl (λ_ _=>by kernel_rfl) rfl (by kernel_rfl) (by kernel_rfl)
 |exact tL rfl rfl rfl rfl rfl rfl (λ_ _=>by kernel_rfl) rfl (by first|exact trivial|exact hc) (by kernel_rfl) (by kernel_rfl)
 |exact Az rfl rfl rfl rfl rfl hg (λ_ _=>by kernel_rfl) rfl (by kernel_rfl) (by kernel_rfl)
 |exact tM rfl rfl rfl rfl rfl rfl hg (λ_ _=>by kernel_rfl) rfl (by first|exact trivial|exact hc) (by kernel_rfl) (by kernel_rfl)):OpOk P ops ms c V A G i o:=h hc
theorem ix (h:OpOk P ops ms c V A G i o:=by
 first
 |exact jH _ hs hs rfl (pt rfl) (by omega) (by kernel_rfl) (by kernel_rfl)
 |exact jH _ hs hs (Int.toNat_of_nonneg (by omega)).symm (pt rfl) (by omega) (by kernel_rfl) (by kernel_rfl)):OpOk P ops ms c V A G i o:=h
theorem Dh (hc:φ) {o:Oper} (h:φ->OpOk P ops ms c V A G i o:=by
 intro hc
 first
 |exact jH _ hg hg rfl (pg hc rfl) (by omega) (by kernel_rfl) (by kernel_rfl)
 |exact jH _ hg hg (Int.toNat_of_nonneg (by omega)).symm (pg hc rfl) (by omega) (by kernel_rfl) (by kernel_rfl)):OpOk P ops ms c V A G i o:=h hc
theorem ext (h:OpOk P ops ms c V A G i o:=by
 first
 |exact gW hs Lz (pt rfl)
 |exact gW hs LA (pt rfl)
 |exact gW hs LB (pt rfl)
 |exact gW hs LC (pt rfl)
 |exact gW hs LD (pt rfl)):OpOk P ops ms c V A G i o:=h
theorem pk (h:OpOk P ops ms c V A G i o:=by
 first
 |exact IC hs hs hs (pt rfl)
 |exact M6 hs hs hs (pt rfl)):OpOk P ops ms c V A G i o:=h
theorem KS (hc:φ) {o:Oper} (h:φ->OpOk P ops ms c V A G i o:=by
 intro hc
 first
 |exact IC hg hg hg (pg hc rfl)
 |exact M6 hg hg hg (pg hc rfl)):OpOk P ops ms c V A G i o:=h hc
theorem mQ (h:OpOk P ops ms c V A G i o:=by
 first
 |exact AA rfl rfl hs rfl rfl (cH (by kernel_rfl)) sH (by kernel_rfl)
 |exact tN rfl rfl rfl rfl (by kernel_rfl) rfl hs vG.ok (Cu rfl) rfl (by kernel_rfl) trivial sH rfl (by kernel_rfl)
 |exact tN rfl rfl rfl rfl (by kernel_rfl) rfl hs vG.ok (Cv rfl) rfl (by kernel_rfl) trivial sH rfl (by kernel_rfl)):OpOk P ops ms c V A G i o:=h
theorem bo (h:OpOk P ops ms c V A G i o:=by
 first
 |exact MZ rfl rfl rfl hs rfl sH (by kernel_rfl) (by kernel_rfl) (by kernel_rfl)):OpOk P ops ms c V A G i o:=h
variable {j:Nat} {b cb:Bool}
theorem gd {op:Op} {dst:Option Nat} (h:cb=b->OpOk P ops ms c V A G i ⟨dst,op,ty,pos,aO,none⟩) (hq:jY j G=some (pB cb):=by exact rfl) (hA:¬cb=b->sB A i:=by intro hn; first|exact .none rfl|exact Rc rfl hn (by kernel_rfl)) (hp:¬cb=b->Post G i (bN undef):=by intro hn; first|exact R4 hn rfl|exact .none rfl)
  (hj:(G.all λe=>e.tag != some j||((ms.getD i 0).testBit j&&iz ms i e.till))=true:=by kernel_rfl) (hb:(V.all λx=>(x.born != some i&&x.dead != some i)&&x.st.all λq=>q.1 != i)=true:=by kernel_rfl):OpOk P ops ms c V A G i ⟨dst,op,ty,pos,aO,some (j,b)⟩:=Qt hq h hA hp hj hb
theorem qa [Decidable φ] {op:Op} {dst:Option Nat} (h:φ/\cb=b->OpOk P ops ms c V A G i ⟨dst,op,ty,pos,aO,none⟩) (hq:jY j G=some (oD φ (pB cb)):=by exact rfl) (hA:¬(φ/\cb=b)->sB A i:=by intro hn; first|exact .none rfl|exact Rc rfl hn (by kernel_rfl)) (hp:¬(φ/\cb=b)->Post G i (bN undef):=by intro hn; first|exact R4 hn rfl|exact .none rfl)
  (hj:(G.all λe=>e.tag != some j||((ms.getD i 0).testBit j&&iz ms i e.till))=true:=by kernel_rfl) (hb:(V.all λx=>(x.born != some i&&x.dead != some i)&&x.st.all λq=>q.1 != i)=true:=by kernel_rfl):OpOk P ops ms c V A G i ⟨dst,op,ty,pos,aO,some (j,b)⟩:=M3 hq h hA hp hj hb
variable {T:TypeId} {v:Vr}
theorem tJ (l:List Zl) (hv:CB i V=some v:=by exact rfl) (hT:v.T=T:=by exact rfl) (cC:v.kd=.ptr:=by exact rfl) (hc:v.c0=pv (pS (l.map Zl.fd)):=by exact rfl) (Bu:v.agg=true:=by exact rfl)
  (hz:∀w,(zeroValue T).run P w=.ok (.agg (l.flatMap Zl.cs).toArray) w:=by exactλ_=>by kernel_rfl) (hl:(l.flatMap Zl.cs).length=v.n:=by exact rfl) (hst:((v.st.all λq=>(ms.getD q.1 0).testBit i)&&V.all λy=>y.dead != some i)=true:=by kernel_rfl) (hno:(G.all λe=>e.tag != some i)=true:=by kernel_rfl) (fZ:(A.all λp=>p.var != v.id||p.tag.any λj=>(ms.getD j 0).testBit i)=true:=by kernel_rfl):
  OpOk P ops ms c V A G i ⟨some d,.alloc T,ty,pos,aO,none⟩:=Gx l hv hT cC hc Bu hz hl hst hno fZ
theorem Gu (l:Zl) {z:Value} (hl:l.cs=[z]:=by exact rfl) (hv:CB i V=some v:=by exact rfl) (hT:v.T=T:=by exact rfl) (cC:v.kd=.ptr:=by exact rfl) (hc:v.c0=pv l.fd.p:=by exact rfl) (Bu:v.agg=false:=by exact rfl) (hn:v.n=1:=by exact rfl)
  (hz:∀w,(zeroValue T).run P w=.ok z w:=by exactλ_=>by kernel_rfl) (uL:z.cells=[z].toArray:=by exact rfl) (hp:∀w,l.fd.p w z:=by exactλ_=>rfl) (hst:((v.st.all λq=>(ms.getD q.1 0).testBit i)&&V.all λy=>y.dead != some i)=true:=by kernel_rfl) (hno:(G.all λe=>e.tag != some i)=true:=by kernel_rfl) (fZ:(A.all λp=>p.var != v.id||p.tag.any λj=>(ms.getD j 0).testBit i)=true:=by kernel_rfl):
  OpOk P ops ms c V A G i ⟨some d,.alloc T,ty,pos,aO,none⟩:=Ea l hl hv hT cC hc Bu hn hz uL hp hst hno fZ
theorem fP {S f sz:Nat} {fs:List Fd} {q:Pred} (off n:Nat) (ag:Bool) (h:Has ms G i x (dR sz true (pS fs)):=by exact hs) (hq:Eb ag (vw fs off n)=some q:=by exact rfl) (hp:Post G i (dR n ag q):=by exact pt rfl) (hn:n≠0:=by decide) (hf:∀b o w,(Instr.fieldAt S (.pointer (some ⟨b,o,none⟩)) f).run P w=.ok (.pointer (some ⟨b,o+off,none⟩)) w:=by exactλ_ _ _=>by kernel_rfl)
  (hA:(A.all λq=>q.tag != some i)=true:=by kernel_rfl):OpOk P ops ms c V A G i ⟨some d,.fieldAddr S x f,ty,pos,aO,none⟩:=
 cO rfl rfl rfl (.inr hA) hp λL β a w hI hd=>by
  have hr:=h.spec hI hd
  obtain⟨b,o,cs,e,_⟩:=hr.out
  refine⟨.pointer (some ⟨b,o+off,none⟩),w,?_,Below.refl _ _,λw' he=>?_⟩
  ·show(do pure (Next.value (<-Instr.fieldAt S (a.eval x) f))).run P w=_
   rw[e,Sem.run_bind,hf]
   rfl
  ·obtain⟨b',o',cs',e',hl,hc,hp'⟩:=hr w' he
   rw[e]at e'
   injection e' with e'
   injection e' with e'
   injection e' with e1 e2
   subst e1 e2
   obtain⟨ds,e3,hds⟩:=hp'
   have e4:=ck (show ak true cs'=ak true ds from e3)
   subst e4
   cases hs:vw fs off n with
   |none=>rw[hs]at hq; cases ag<;>cases hq
   |some l=>
    rw[hs]at hq
    have hk:=AW hs hds
    have hlen:=hk.2
    rw[if_neg hn]at hlen
    refine⟨b,o+off,(cs'.drop off).take n,rfl,by rw[List.length_take,List.length_drop]; omega,λj u hj=>?_,AE hq hk.1⟩
    rw[List.getElem?_take]at hj
    split at hj
    ·rw[List.getElem?_drop]at hj
     rw[Nat.add_assoc]
     exact hc _ _ hj
    ·cases hj
variable {f:FuncId} {ts:Array TypeId} {p1 q1:Pred}
theorem FF (gg:φ->∀w v1,p1 w v1->Calls P f #[v1] w (fk p w)) (h1:Has ms G i x q1:=by exact hs) (c1:∀w v,q1 w v->p1 w v:=by exact l7) (hp:Post G i p:=by exact pt rfl) (hφ:φ:=by first|omega|trivial) (hn:aA p:=by exact y6) (hf:aM P f:=by exactλ_ _=>by kernel_rfl):
  OpOk P ops ms c V A G i ⟨some d,.call ⟨.value (.func f),#[x],ts⟩,ty,pos,aO,none⟩:=fS hf hn (h1.imp c1) hp (gg hφ)
variable {p2 q2:Pred}
theorem Fi (gg:φ->∀w v1 v2,p1 w v1->p2 w v2->Calls P f #[v1,v2] w (fk p w)) (h1:Has ms G i x q1:=by exact hs) (c1:∀w v,q1 w v->p1 w v:=by exact l7) (h2:Has ms G i y q2:=by exact hs) (c2:∀w v,q2 w v->p2 w v:=by exact l7) (hp:Post G i p:=by exact pt rfl) (hφ:φ:=by first|omega|trivial) (hn:aA p:=by exact y6) (hf:aM P f:=by exactλ_ _=>by kernel_rfl):
  OpOk P ops ms c V A G i ⟨some d,.call ⟨.value (.func f),#[x,y],ts⟩,ty,pos,aO,none⟩:=cw hf hn (h1.imp c1) (h2.imp c2) hp (gg hφ)
theorem sE (gg:φ->∀M w v1,da M w->aP M (λw=>p1 w v1) w->Calls P f #[v1] w (bK M p w)) (h1:Has ms G i x q1:=by exact hs) (c1:∀w v,q1 w v->p1 w v:=by exact l7) (hp:Post G i p:=by exact pt rfl) (hφ:φ:=by first|omega|trivial) (hf:aM P f:=by exactλ_ _=>by kernel_rfl):
  OpOk P ops ms c V A G i ⟨some d,.call ⟨.value (.func f),#[x],ts⟩,ty,pos,aO,none⟩:=Cb hf (h1.imp c1) hp (gg hφ)
theorem FD (gg:φ->∀M w v1 v2,da M w->aP M (λw=>p1 w v1) w->aP M (λw=>p2 w v2) w->Calls P f #[v1,v2] w (bK M p w)) (h1:Has ms G i x q1:=by exact hs) (c1:∀w v,q1 w v->p1 w v:=by exact l7) (h2:Has ms G i y q2:=by exact hs) (c2:∀w v,q2 w v->p2 w v:=by exact l7) (hp:Post G i p:=by exact pt rfl) (hφ:φ:=by first|omega|trivial) (hf:aM P f:=by exactλ_ _=>by kernel_rfl):
  OpOk P ops ms c V A G i ⟨some d,.call ⟨.value (.func f),#[x,y],ts⟩,ty,pos,aO,none⟩:=tP hf (h1.imp c1) (h2.imp c2) hp (gg hφ)
end
section
variable {P:Program} {Q:Exit->Act->World->Prop} {c:dg} {V:List Vr} {G:List aV} {a:Act} {w:World}
end
end Wx
