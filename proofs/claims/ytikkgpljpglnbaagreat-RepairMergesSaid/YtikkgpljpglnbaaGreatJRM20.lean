import Derived.Test.YtikkgpljpglnbaaGreatCRMAuto
namespace Wx
open Go Go.RowKit
def Nc (P:Program) (E:TypeId) (n:Nat):Bool:=match P.info? E with
 |some i=>Nat.beq i.size n
 |none=>false
variable {P:Program} {n:Nat}
theorem pJ {E:TypeId} (h:Nc P E n=true) (w:World):(Go.sizeOf E).run P w=.ok n w:=by
 unfold Nc at h
 split at h
 ·rename_i i hi
  have:=Nat.eq_of_beq_eq_true h
  subst this
  simp[Go.sizeOf,typeInfo,hi]
 ·cases h
def zn (P:Program) (T:TypeId) (ag:Bool) (n:Nat):Bool:=Nc P T n&&((ag||Nat.beq n 1)&&match P.underlying T with
 |some (.struct _)|some (.array _ _)=>ag
 |some _=>!ag
 |none=>false)
variable {T:TypeId} {ag:Bool}
theorem bF (h:zn P T ag n=true):Ty P T ag n:=by
 unfold zn at h
 rw[Bool.and_eq_true,Bool.and_eq_true]at h
 obtain⟨h1,h2,h3⟩:=h
 refine⟨λw=>?_,pJ h1,λe=>?_⟩
 ·cases hu:P.underlying T with
  |none=>rw[hu]at h3; cases h3
  |some u=>
   rw[hu]at h3
   have hr:=run_underlying hu w
   simp only[isAgg,Sem.run_bind,hr,Result.andThen_ok]
   cases u<;>simp at h3<;>subst h3<;>rfl
 ·subst e; rw[Bool.false_or]at h2; exact Nat.eq_of_beq_eq_true h2
class zC (P:Program) (T:TypeId) (ag:outParam Bool) (n:outParam Nat):Prop where
 ok:Ty P T ag n
def GH (P:Program) (T:TypeId) (sz:Nat):Bool:=match P.underlying T with
 |some (.slice E)=>Nc P E sz
 |_=>false
variable {sz:Nat}
theorem nO (h:GH P T sz=true):∃E,lP P T E sz:=by
 unfold GH at h
 split at h
 ·rename_i E hE; exact⟨E,hE,pJ h⟩
 ·cases h
def F5 (P:Program) (T:TypeId):Bool:=match P.underlying T with
 |some (.slice _)=>true
 |_=>false
theorem Ag (h:F5 P T=true):∃E,P.underlying T=some (.slice E):=by
 unfold F5 at h
 split at h
 ·rename_i E hE; exact⟨E,hE⟩
 ·cases h
def KF (P:Program) (T:TypeId) (len sz:Nat):Bool:=match P.underlying T with
 |some (.array n E)=>Nat.beq n len&&Nc P E sz
 |_=>false
theorem uG {len:Nat} (h:KF P T len sz=true) {b off:Nat} {m:Int} (h0:0<=m) (h1:m<len) (w:World):(Instr.indexAt T (.pointer (some ⟨b,off,none⟩)) (.int .i64 m)).run P w=.ok (.pointer (some ⟨b,off+m.toNat*sz,none⟩)) w:=by
 unfold KF at h
 split at h
 ·rename_i n E hE
  rw[Bool.and_eq_true]at h
  have e:=Nat.eq_of_beq_eq_true h.1
  subst e
  have hu:(underlying T).run P w=.ok (.array n E) w:=run_underlying hE w
  simp only[Instr.indexAt,asIntOf,pure_bind,Sem.run_bind,hu,Result.andThen_ok,Instr.sureAddr]
  rw[if_pos ⟨h0,h1⟩]
  simp only[Sem.run_bind,pJ h.2,Result.andThen_ok,Sem.run_pure,Addr.add_mid]
 ·cases h
variable {p:Pred}
theorem qx (h:Fits n ag p:=by
 first
 |exact mb
 |exact ud
 |exact fits_int _
 |exact fits_bool _
 |exact jG _
 |exact vT _
 |exact qz _ _ _
 |exact ee
 |exact vU _
 |exact po (λ_=>mb) (by first|rfl|omega|(simp; omega))
 |exact po (λ_=>ud) (by first|rfl|omega|(simp; omega))
 |exact qy (by repeat' (first|exact trivial|exact mb|exact ud|exact fits_int _|exact fits_bool _|exact qz _ _ _|exact ee|exact vU _|refine⟨?_,?_⟩)) rfl):Fits n ag p:=h
theorem xH (h:av p:=by
 first
 |exact lG
 |exact lF
 |exact bu _
 |exact qZ λ_=>lG
 |exact qZ λ_=>lF
 |exact cP _
 |exact jS _
 |exact fN lG (bu _)
 |exact fN lF (bu _)
 |exact fN (cP _) (bu _)
 |exact fN (jS _) (bu _)):av p:=h
variable {q:Pred}
theorem qj (h:∀w v,p w v->q w v:=by
 first
 |exactλ_ _ h=>h
 |exact wP (by omega)
 |exact AH (by omega)
 |exact nh.pV (by repeat' (first|exact nh.z|refine nh.c (by omega) ?_))
 |exactλ_ _ h=>h
 |exactλ_ _ h=>h.2):∀w v,p w v->q w v:=h
variable {i:Nat}
theorem Has.Qm {ms:List Nat} {G:List aQ} {x:Operand} {φ ψ:Prop} (h:Has ms G i x (nK (φ/\ψ) q)) (hφ:φ):Has ms G i x (nK ψ q):=
 h.imp λ_ _ k=>⟨λhψ=>k.1 ⟨hφ,hψ⟩,λhψ=>k.2 λhh=>hψ hh.2⟩
theorem QS {A:List Al} {al:Al} (h:Fl i A=some al) (hn:¬al.cond) (hu:(A.filter λq=>q.tag==some i).length=1):si A i:=by
 obtain⟨⟨k,hk⟩,ht⟩:=lQ h
 exact .at_ k hk ht hu hn
def tm:Nat->Nat->List Nat
 |0,_=>[]
 |n+1,k=>k::tm n (2*k+1)
section
variable {P:Program} {ops:Array Oper} {ms:List Nat} {c:cF} {V:List Vr} {A:List Al} {G:List aQ} {i:Nat}{d:Nat} {x y z:Operand} {ty:TypeId} {pos:String} {aI:Array Edge}{T:TypeId} {sz n:Nat} {agg:Bool} {f:Nat->Pred}
theorem IC (h:Has ms G i x (bz sz agg n f)) (hp:Post G i (pI (n:Int))) (ht:F5 P T=true):
  OpOk P ops ms c V A G i ⟨some d,.call ⟨.builtin .len,#[x],#[T]⟩,ty,pos,aI,none⟩:=(Ag ht).elim λ_ hE=>J3 h hE hp
theorem bw {m:Int} (k:Nat) (h:Has ms G i x (bz sz agg n f)) (hy:Has ms G i y (pI m)) (hm:m=(k:Int)) (hp:Post G i (cZ sz agg (f k))) (hk:k<n) (ht:GH P T sz=true) (hA:(A.all λq=>q.tag != some i)=true):
  OpOk P ops ms c V A G i ⟨some d,.indexAddr T x y,ty,pos,aI,none⟩:=by
 obtain⟨E,hE⟩:=nO ht
 subst hm
 exact wO h hy hE (by omega) (by omega) hA (by rw[Int.toNat_natCast]; exact hp)
theorem cm {p:Pred} (h:Has ms G i x (cZ sz agg p)) (hp:Post G i p) (ht:zn P T agg sz=true) (hfit:Fits sz agg p):OpOk P ops ms c V A G i ⟨some d,.load T x,ty,pos,aI,none⟩:=
 DU h (bF ht) hfit hp
variable {cb b2:Bool}
theorem Iy (h:Has ms G i x (pB cb)) (hy:Has ms G i y (nK (cb=true) (pB b2))) (hz:Has ms G i z (pB false)) (hp:Post G i (pB (cb&&b2))):OpOk P ops ms c V A G i ⟨some d,.pick x y z,ty,pos,aI,none⟩:=
 AD h (λe=>(hy.KZ e).imp λ_ _ k=>by rw[e]; exact k) (λe=>hz.imp λ_ _ k=>by rw[e]; exact k) hp
theorem MW (h:Has ms G i x (pB cb)) (hy:Has ms G i y (pB true)) (hz:Has ms G i z (nK (cb=false) (pB b2))) (hp:Post G i (pB (cb||b2))):OpOk P ops ms c V A G i ⟨some d,.pick x y z,ty,pos,aI,none⟩:=
 AD h (λe=>hy.imp λ_ _ k=>by rw[e]; exact k) (λe=>(hz.KZ e).imp λ_ _ k=>by rw[e]; exact k) hp
end
end Wx

namespace Wx
open Go Go.RowKit
section
variable {P:Program} {ops:Array Oper} {ms:List Nat} {c:cF} {V:List Vr} {A:List Al} {G:List aQ} {i:Nat}{d:Nat} {x y z:Operand} {ty:TypeId} {pos:String} {aI:Array Edge}{p:Pred}
theorem hs (h:Has ms G i x p:=by
 first
 |exact look rfl
 |exact .const _
 |exact .func _):Has ms G i x p:=h
theorem hg (h:Has ms G i x p:=by
 first
 |exact .const _
 |exact .func _
 |exact Has.KZ (look rfl) (by assumption)
 |exact Has.KZ (look rfl) (And.left (by assumption))
 |exact Has.Qm (look rfl) (by assumption)
 |exact look rfl):Has ms G i x p:=h
variable {φ:Prop}
theorem pg (hc:φ) (h:js i G=some (nK φ p)):Post G i p:=TR hc h
variable {o:Oper}
theorem mv (h:OpOk P ops ms c V A G i o:=by
 first
 |exact cB hs (pt rfl)
 |exact dy hs (pt rfl)):OpOk P ops ms c V A G i o:=h
theorem iC (hc:φ) {o:Oper} (h:φ->OpOk P ops ms c V A G i o:=by
 intro hc
 first
 |exact cB hg (pg hc rfl)
 |exact dy hg (pg hc rfl)):OpOk P ops ms c V A G i o:=h hc
theorem ld (h:OpOk P ops ms c V A G i o:=by
 first
 |exact o_load rfl rfl rfl rfl (pt rfl) (bF (by kernel_rfl))
 |exact rf rfl rfl rfl rfl (by kernel_rfl) rfl zC.ok (wD rfl) trivial (pt rfl) rfl
 |exact cm hs (pt rfl) (by kernel_rfl) qx):OpOk P ops ms c V A G i o:=h
theorem pz (hc:φ) {o:Oper} (h:φ->OpOk P ops ms c V A G i o:=by
 intro hc
 first
 |exact o_load rfl rfl rfl rfl (pg hc rfl) (bF (by kernel_rfl))
 |exact rf rfl rfl rfl rfl (by kernel_rfl) rfl zC.ok (wD rfl) (by first|exact trivial|exact hc) (pg hc rfl) rfl
 |exact cm hg (pg hc rfl) (by kernel_rfl) qx):OpOk P ops ms c V A G i o:=h hc
theorem bn (h:OpOk P ops ms c V A G i o:=by
 first
 |exact IE hs hs (pt rfl)
 |exact ID hs hs (pt rfl)
 |exact IB hs hs (pt rfl)
 |exact IA hs hs (pt rfl)
 |exact Iz hs hs (pt rfl)
 |exact IG hs hs (pt rfl)
 |exact Iw hs hs (pt rfl)
 |exact IJ hs hs (pt rfl)
 |exact IF hs hs (pt rfl)):OpOk P ops ms c V A G i o:=h
theorem oa (hc:φ) {o:Oper} (h:φ->OpOk P ops ms c V A G i o:=by
 intro hc
 first
 |exact IE hg hg (pg hc rfl)
 |exact ID hg hg (pg hc rfl)
 |exact IB hg hg (pg hc rfl)
 |exact IA hg hg (pg hc rfl)
 |exact Iz hg hg (pg hc rfl)
 |exact IG hg hg (pg hc rfl)
 |exact Iw hg hg (pg hc rfl)
 |exact IJ hg hg (pg hc rfl)
 |exact IF hg hg (pg hc rfl)):OpOk P ops ms c V A G i o:=h hc
theorem nt (h:OpOk P ops ms c V A G i o:=by
 first
 |exact DW hs (pt rfl)):OpOk P ops ms c V A G i o:=h
theorem Q9 (hc:φ) {o:Oper} (h:φ->OpOk P ops ms c V A G i o:=by
 intro hc
 first
 |exact DW hg (pg hc rfl)):OpOk P ops ms c V A G i o:=h hc
theorem ln (h:OpOk P ops ms c V A G i o:=by
 first
 |exact IC hs (pt rfl) (by kernel_rfl)):OpOk P ops ms c V A G i o:=h
theorem OI (hc:φ) {o:Oper} (h:φ->OpOk P ops ms c V A G i o:=by
 intro hc
 first
 |exact IC hg (pg hc rfl) (by kernel_rfl)):OpOk P ops ms c V A G i o:=h hc
theorem fa (h:OpOk P ops ms c V A G i o:=by
 first
 |exact Aw rfl rfl rfl rfl rfl (λ_ _=>by kernel_rfl) rfl (by kernel_rfl) (by kernel_rfl)
 |exact tq rfl rfl rfl rfl rfl rfl (λ_ _=>by kernel_rfl) rfl trivial (by kernel_rfl) (by kernel_rfl)
 |exact Ay rfl rfl rfl rfl rfl hs (λ_ _=>by kernel_rfl) rfl (by kernel_rfl) (by kernel_rfl)
 |exact tr rfl rfl rfl rfl rfl rfl hs (λ_ _=>by kernel_rfl) rfl trivial (by kernel_rfl) (by kernel_rfl)):OpOk P ops ms c V A G i o:=h
theorem FC (hc:φ) {o:Oper} (h:φ->OpOk P ops ms c V A G i o:=by
 intro hc
 first
 |exact Aw rfl rfl rfl rfl rfl (λ_ _=>by kernel_rfl) rfl (by kernel_rfl) (by kernel_rfl)
 |exact tq rfl rfl rfl rfl rfl rfl (λ_ _=>by kernel_rfl) rfl (by first|exact trivial|exact hc) (by kernel_rfl) (by kernel_rfl)
 |exact Ay rfl rfl rfl rfl rfl hg (λ_ _=>by kernel_rfl) rfl (by kernel_rfl) (by kernel_rfl)
 |exact tr rfl rfl rfl rfl rfl rfl hg (λ_ _=>by kernel_rfl) rfl (by first|exact trivial|exact hc) (by kernel_rfl) (by kernel_rfl)):OpOk P ops ms c V A G i o:=h hc
theorem ix (h:OpOk P ops ms c V A G i o:=by
 first
 |exact bw _ hs hs rfl (pt rfl) (by omega) (by kernel_rfl) (by kernel_rfl)
 |exact bw _ hs hs (Int.toNat_of_nonneg (by omega)).symm (pt rfl) (by omega) (by kernel_rfl) (by kernel_rfl)):OpOk P ops ms c V A G i o:=h
theorem FD (hc:φ) {o:Oper} (h:φ->OpOk P ops ms c V A G i o:=by
 intro hc
 first
 |exact bw _ hg hg rfl (pg hc rfl) (by omega) (by kernel_rfl) (by kernel_rfl)
 |exact bw _ hg hg (Int.toNat_of_nonneg (by omega)).symm (pg hc rfl) (by omega) (by kernel_rfl) (by kernel_rfl)):OpOk P ops ms c V A G i o:=h hc
theorem ext (h:OpOk P ops ms c V A G i o:=by
 first
 |exact gn hs Lu (pt rfl)
 |exact gn hs Lv (pt rfl)
 |exact gn hs Lx (pt rfl)
 |exact gn hs Ly (pt rfl)
 |exact gn hs Lz (pt rfl)):OpOk P ops ms c V A G i o:=h
theorem pk (h:OpOk P ops ms c V A G i o:=by
 first
 |exact Iy hs hs hs (pt rfl)
 |exact MW hs hs hs (pt rfl)):OpOk P ops ms c V A G i o:=h
theorem OK (hc:φ) {o:Oper} (h:φ->OpOk P ops ms c V A G i o:=by
 intro hc
 first
 |exact Iy hg hg hg (pg hc rfl)
 |exact MW hg hg hg (pg hc rfl)):OpOk P ops ms c V A G i o:=h hc
theorem mW (h:OpOk P ops ms c V A G i o:=by
 first
 |exact kE rfl rfl hs rfl rfl (bF (by kernel_rfl)) qx (by kernel_rfl)
 |exact tu rfl rfl rfl rfl (by kernel_rfl) rfl hs zC.ok (Cg rfl) rfl (by kernel_rfl) trivial qx rfl (by kernel_rfl)
 |exact tu rfl rfl rfl rfl (by kernel_rfl) rfl hs zC.ok (Ch rfl) rfl (by kernel_rfl) trivial qx rfl (by kernel_rfl)):OpOk P ops ms c V A G i o:=h
theorem bo (h:OpOk P ops ms c V A G i o:=by
 first
 |exact MU rfl rfl rfl hs rfl qx (by kernel_rfl) (by kernel_rfl) (by kernel_rfl)):OpOk P ops ms c V A G i o:=h
variable {j:Nat} {b cb:Bool}
theorem gd {op:Op} {dst:Option Nat} (h:cb=b->OpOk P ops ms c V A G i ⟨dst,op,ty,pos,aI,none⟩) (hq:js j G=some (pB cb):=by exact rfl) (hA:¬cb=b->si A i:=by intro hn; first|exact .none rfl|exact QS rfl hn (by kernel_rfl)) (hp:¬cb=b->Post G i (bg undef):=by intro hn; first|exact RQ hn rfl|exact .none rfl)
  (hj:(G.all λe=>e.tag != some j||((ms.getD i 0).testBit j&&gJ ms i e.till))=true:=by kernel_rfl) (hb:(V.all λx=>(x.born != some i&&x.dead != some i)&&x.st.all λq=>q.1 != i)=true:=by kernel_rfl):OpOk P ops ms c V A G i ⟨dst,op,ty,pos,aI,some (j,b)⟩:=Qd hq h hA hp hj hb
theorem nj [Decidable φ] {op:Op} {dst:Option Nat} (h:φ/\cb=b->OpOk P ops ms c V A G i ⟨dst,op,ty,pos,aI,none⟩) (hq:js j G=some (nK φ (pB cb)):=by exact rfl) (hA:¬(φ/\cb=b)->si A i:=by intro hn; first|exact .none rfl|exact QS rfl hn (by kernel_rfl)) (hp:¬(φ/\cb=b)->Post G i (bg undef):=by intro hn; first|exact RQ hn rfl|exact .none rfl)
  (hj:(G.all λe=>e.tag != some j||((ms.getD i 0).testBit j&&gJ ms i e.till))=true:=by kernel_rfl) (hb:(V.all λx=>(x.born != some i&&x.dead != some i)&&x.st.all λq=>q.1 != i)=true:=by kernel_rfl):OpOk P ops ms c V A G i ⟨dst,op,ty,pos,aI,some (j,b)⟩:=MV hq h hA hp hj hb
variable {T:TypeId} {v:Vr}
theorem tn (l:List Zl) (hv:AY i V=some v:=by exact rfl) (hT:v.T=T:=by exact rfl) (bD:v.kd=.ptr:=by exact rfl) (hc:v.c0=pv (pS (l.map Zl.fd)):=by exact rfl) (Br:v.agg=true:=by exact rfl)
  (hz:∀w,(zeroValue T).run P w=.ok (.agg (l.flatMap Zl.cs).toArray) w:=by exactλ_=>by kernel_rfl) (hl:(l.flatMap Zl.cs).length=v.n:=by exact rfl) (hst:((v.st.all λq=>(ms.getD q.1 0).testBit i)&&V.all λy=>y.dead != some i)=true:=by kernel_rfl) (hno:(G.all λe=>e.tag != some i)=true:=by kernel_rfl) (eB:(A.all λp=>p.var != v.id||p.tag.any λj=>(ms.getD j 0).testBit i)=true:=by kernel_rfl):
  OpOk P ops ms c V A G i ⟨some d,.alloc T,ty,pos,aI,none⟩:=Gl l hv hT bD hc Br hz hl hst hno eB
theorem J0 (l:Zl) {z:Value} (hl:l.cs=[z]:=by exact rfl) (hv:AY i V=some v:=by exact rfl) (hT:v.T=T:=by exact rfl) (bD:v.kd=.ptr:=by exact rfl) (hc:v.c0=pv l.fd.p:=by exact rfl) (Br:v.agg=false:=by exact rfl) (hn:v.n=1:=by exact rfl)
  (hz:∀w,(zeroValue T).run P w=.ok z w:=by exactλ_=>by kernel_rfl) (yz:z.cells=[z].toArray:=by exact rfl) (hp:∀w,l.fd.p w z:=by exactλ_=>rfl) (hst:((v.st.all λq=>(ms.getD q.1 0).testBit i)&&V.all λy=>y.dead != some i)=true:=by kernel_rfl) (hno:(G.all λe=>e.tag != some i)=true:=by kernel_rfl) (eB:(A.all λp=>p.var != v.id||p.tag.any λj=>(ms.getD j 0).testBit i)=true:=by kernel_rfl):
  OpOk P ops ms c V A G i ⟨some d,.alloc T,ty,pos,aI,none⟩:=DN l hl hv hT bD hc Br hn hz yz hp hst hno eB
theorem fP {S f sz:Nat} {fs:List Fd} {q:Pred} (off n:Nat) (ag:Bool) (h:Has ms G i x (cZ sz true (pS fs)):=by exact hs) (hq:DO ag (uK fs off n)=some q:=by exact rfl) (hp:Post G i (cZ n ag q):=by exact pt rfl) (hn:n≠0:=by decide) (hf:∀b o w,(Instr.fieldAt S (.pointer (some ⟨b,o,none⟩)) f).run P w=.ok (.pointer (some ⟨b,o+off,none⟩)) w:=by exactλ_ _ _=>by kernel_rfl)
  (hA:(A.all λq=>q.tag != some i)=true:=by kernel_rfl):OpOk P ops ms c V A G i ⟨some d,.fieldAddr S x f,ty,pos,aI,none⟩:=
 bX rfl rfl rfl (.inr hA) hp λL β a w hI hd=>by
  have hr:=h.spec hI hd
  obtain⟨b,o,cs,e,_⟩:=hr.out
  refine⟨.pointer (some ⟨b,o+off,none⟩),w,?_,Below.refl _ _,λw' he=>?_⟩
  ·show(do pure (Next.value (<-Instr.fieldAt S (a.eval x) f))).run P w=_
   rw[e,Sem.run_bind,hf]
   rfl
  ·obtain⟨b',o',cs',e',hl,hc,hp'⟩:=hr w' he
   rw[e]at e'
   injection e' with e'
   injection e' with e'
   injection e' with e1 e2
   subst e1 e2
   obtain⟨ds,e3,hds⟩:=hp'
   have e4:=bU (show aq true cs'=aq true ds from e3)
   subst e4
   cases hs:uK fs off n with
   |none=>rw[hs]at hq; cases ag<;>cases hq
   |some l=>
    rw[hs]at hq
    have hk:=AU hs hds
    have hlen:=hk.2
    rw[if_neg hn]at hlen
    refine⟨b,o+off,(cs'.drop off).take n,rfl,by rw[List.length_take,List.length_drop]; omega,λj u hj=>?_,AA hq hk.1⟩
    rw[List.getElem?_take]at hj
    split at hj
    ·rw[List.getElem?_drop]at hj
     rw[Nat.add_assoc]
     exact hc _ _ hj
    ·cases hj
variable {f:FuncId} {ts:Array TypeId} {p1 q1:Pred}
theorem KI (gB:φ->∀w v1,p1 w v1->Calls P f #[v1] w (iw p w)) (h1:Has ms G i x q1:=by exact hs) (c1:∀w v,q1 w v->p1 w v:=by exact qj) (hp:Post G i p:=by exact pt rfl) (hφ:φ:=by first|omega|trivial) (hn:av p:=by exact xH) (hf:aJ P f:=by exactλ_ _=>by kernel_rfl):
  OpOk P ops ms c V A G i ⟨some d,.call ⟨.value (.func f),#[x],ts⟩,ty,pos,aI,none⟩:=mD hf hn (h1.imp c1) hp (gB hφ)
variable {p2 q2:Pred}
theorem KJ (gB:φ->∀w v1 v2,p1 w v1->p2 w v2->Calls P f #[v1,v2] w (iw p w)) (h1:Has ms G i x q1:=by exact hs) (c1:∀w v,q1 w v->p1 w v:=by exact qj) (h2:Has ms G i y q2:=by exact hs) (c2:∀w v,q2 w v->p2 w v:=by exact qj) (hp:Post G i p:=by exact pt rfl) (hφ:φ:=by first|omega|trivial) (hn:av p:=by exact xH) (hf:aJ P f:=by exactλ_ _=>by kernel_rfl):
  OpOk P ops ms c V A G i ⟨some d,.call ⟨.value (.func f),#[x,y],ts⟩,ty,pos,aI,none⟩:=fk hf hn (h1.imp c1) (h2.imp c2) hp (gB hφ)
theorem uN (gB:φ->∀M w v1,cQ M w->aL M (λw=>p1 w v1) w->Calls P f #[v1] w (bV M p w)) (h1:Has ms G i x q1:=by exact hs) (c1:∀w v,q1 w v->p1 w v:=by exact qj) (hp:Post G i p:=by exact pt rfl) (hφ:φ:=by first|omega|trivial) (hf:aJ P f:=by exactλ_ _=>by kernel_rfl):
  OpOk P ops ms c V A G i ⟨some d,.call ⟨.value (.func f),#[x],ts⟩,ty,pos,aI,none⟩:=BQ hf (h1.imp c1) hp (gB hφ)
theorem ES (gB:φ->∀M w v1 v2,cQ M w->aL M (λw=>p1 w v1) w->aL M (λw=>p2 w v2) w->Calls P f #[v1,v2] w (bV M p w)) (h1:Has ms G i x q1:=by exact hs) (c1:∀w v,q1 w v->p1 w v:=by exact qj) (h2:Has ms G i y q2:=by exact hs) (c2:∀w v,q2 w v->p2 w v:=by exact qj) (hp:Post G i p:=by exact pt rfl) (hφ:φ:=by first|omega|trivial) (hf:aJ P f:=by exactλ_ _=>by kernel_rfl):
  OpOk P ops ms c V A G i ⟨some d,.call ⟨.value (.func f),#[x,y],ts⟩,ty,pos,aI,none⟩:=tw hf (h1.imp c1) (h2.imp c2) hp (gB hφ)
end
section
variable {P:Program} {Q:Exit->Act->World->Prop} {c:cF} {V:List Vr} {G:List aQ} {a:Act} {w:World}
end
end Wx
