import Derived.Test.YtfnmkhlleanppaaGreatDoorJWC15
import Derived.Test.YtfnmkhlleanppaaGreatDoorJWC14
namespace Wx
open Go Go.RowKit
section
variable {ro:Option Nat} {ds:List Deferred} {P:Program} {Q:Exit->Act->World->Prop} {c:bQ} {V:List Vr} {G:List aN} {a:Act} {w:World} {fn:Func}{id:Nat} {l:List Oper} {V1 V2:List Vr} {G1 G2:List aN}
theorem I3 (h:Inv c V [] G none_ a w) (ms:List Nat) (nv:List Vr) (A1:List Al) (ne:List aN) (hV:oa nv V V1) (hG:ic ne G G1) (hs:mh P l.toArray ms c V1 A1 G1 0 l) (kV:dA V1 V2) (kG:aA G1 G2) (hk:∀a w,Inv c V2 [] G2 none_ a w->Q .normal a w) (hn:gH nv A1 ne=true:=by kernel_rfl) (hb:sn P c.N l ms V1 A1 G1=true:=by kernel_rfl) (hd:l.all cF=true:=by kernel_rfl):(Code.region id l.toArray true).ww ro ds P Q a w:=by
 unfold sn at hb
 simp only[Bool.and_eq_true,beq_iff_eq]at hb
 obtain⟨hm,hok,rz,hwf⟩:=hb
 exact Ac ms hm hok rz hwf hd (dS h hV hG hn) hs λa w hI=>hk a w (eY hwf kV kG hI)
variable {y:Code}
theorem xd (h:Inv c V [] G none_ a w) (ms:List Nat) (nv:List Vr) (A1:List Al) (ne:List aN) (hV:oa nv V V1) (hG:ic ne G G1) (hs:mh P l.toArray ms c V1 A1 G1 0 l) (kV:dA V1 V2) (kG:aA G1 G2) (hk:∀a w,Inv c V2 [] G2 none_ a w->y.ww ro ds P Q a w) (hn:gH nv A1 ne=true:=by kernel_rfl) (hb:sn P c.N l ms V1 A1 G1=true:=by kernel_rfl) (hd:l.all cF=true:=by kernel_rfl):(Code.seq (Code.region id l.toArray true) y).ww ro ds P Q a w:=
 ah (I3 h ms nv A1 ne hV hG hs kV kG hk hn hb hd)
theorem KN (h:Inv c [] [] G none_ a w) (ms:List Nat) (ne:List aN) (hG:ic ne G G1) (hs:mh P l.toArray ms c [] [] G1 0 l) (kG:aA G1 G2) (hk:∀a w,Inv c [] [] G2 none_ a w->Q .normal a w) (hn:gH [] [] ne=true:=by kernel_rfl) (hb:sn P c.N l ms [] [] G1=true:=by kernel_rfl) (hd:l.all cF=true:=by kernel_rfl):(Code.region id l.toArray true).ww ro ds P Q a w:=I3 h ms [] [] ne .z hG hs .z kG hk hn hb hd
theorem Iu (h:Inv c [] [] G none_ a w) (ms:List Nat) (ne:List aN) (hG:ic ne G G1) (hs:mh P l.toArray ms c [] [] G1 0 l) (kG:aA G1 G2) (hk:∀a w,Inv c [] [] G2 none_ a w->y.ww ro ds P Q a w) (hn:gH [] [] ne=true:=by kernel_rfl) (hb:sn P c.N l ms [] [] G1=true:=by kernel_rfl) (hd:l.all cF=true:=by kernel_rfl):(Code.seq (Code.region id l.toArray true) y).ww ro ds P Q a w:=ah (KN h ms ne hG hs kG hk hn hb hd)
theorem sG (h:Inv c V [] G none_ a w) (n:Nat) (nv:List Vr) (A1:List Al) (ne:List aN) (hV:oa nv V V1) (hG:ic ne G G1) (hs:mh P l.toArray (tm n 0) c V1 A1 G1 0 l) (kV:dA V1 V2) (kG:aA G1 G2) (hk:∀a w,Inv c V2 [] G2 none_ a w->Q .normal a w) (hn:gH nv A1 ne=true:=by kernel_rfl) (hb:sr c.N l (tm n 0) V1 A1 G1=true:=by kernel_rfl) (hd:l.all cF=true:=by kernel_rfl):(Code.region id l.toArray false).ww ro ds P Q a w:=by
 unfold sr at hb
 simp only[Bool.and_eq_true,beq_iff_eq]at hb
 obtain⟨rz,hwf⟩:=hb
 exact Cy hwf hd (dS h hV hG hn) (by rw[rz]; exact hs) λa w hI=>hk a w (eY hwf kV kG hI)
theorem bO (h:Inv c V [] G none_ a w) (n:Nat) (nv:List Vr) (A1:List Al) (ne:List aN) (hV:oa nv V V1) (hG:ic ne G G1) (hs:mh P l.toArray (tm n 0) c V1 A1 G1 0 l) (kV:dA V1 V2) (kG:aA G1 G2) (hk:∀a w,Inv c V2 [] G2 none_ a w->y.ww ro ds P Q a w) (hn:gH nv A1 ne=true:=by kernel_rfl) (hb:sr c.N l (tm n 0) V1 A1 G1=true:=by kernel_rfl) (hd:l.all cF=true:=by kernel_rfl):(Code.seq (Code.region id l.toArray false) y).ww ro ds P Q a w:=
 ah (sG h n nv A1 ne hV hG hs kV kG hk hn hb hd)
theorem iP (h:Inv c [] [] G none_ a w) (n:Nat) (ne:List aN) (hG:ic ne G G1) (hs:mh P l.toArray (tm n 0) c [] [] G1 0 l) (kG:aA G1 G2) (hk:∀a w,Inv c [] [] G2 none_ a w->Q .normal a w) (hn:gH [] [] ne=true:=by kernel_rfl) (hb:sr c.N l (tm n 0) [] [] G1=true:=by kernel_rfl) (hd:l.all cF=true:=by kernel_rfl):(Code.region id l.toArray false).ww ro ds P Q a w:=sG h n [] [] ne .z hG hs .z kG hk hn hb hd
theorem au (h:Inv c [] [] G none_ a w) (n:Nat) (ne:List aN) (hG:ic ne G G1) (hs:mh P l.toArray (tm n 0) c [] [] G1 0 l) (kG:aA G1 G2) (hk:∀a w,Inv c [] [] G2 none_ a w->y.ww ro ds P Q a w) (hn:gH [] [] ne=true:=by kernel_rfl) (hb:sr c.N l (tm n 0) [] [] G1=true:=by kernel_rfl) (hd:l.all cF=true:=by kernel_rfl):(Code.seq (Code.region id l.toArray false) y).ww ro ds P Q a w:=ah (iP h n ne hG hs kG hk hn hb hd)
variable {s:Nat}
theorem fC {v:Value} (hI:Inv c V [] G none_ a w) (hk:dz s G=some (aG v)):a.eval (.tmp s)=v:=by
 obtain⟨k,h⟩:=cx hk
 exact hI.get k h
variable {b:Bool} {x:Code}
theorem nX (hI:Inv c V [] G none_ a w) (ht:b=true->x.ww ro ds P Q a w) (hf:b=false->y.ww ro ds P Q a w) (hk:dz s G=some (pB b):=by exact rfl):(Code.cond (.tmp s) x y).ww ro ds P Q a w:=mc (fC hI hk) ht hf
theorem jv {φ:Prop} [Decidable φ] {x y:Code} (hI:Inv c V [] G none_ a w) (ht:φ->x.ww ro ds P Q a w) (hf:¬φ->y.ww ro ds P Q a w) (hk:dz s G=some (pB (decide φ)):=by exact rfl):(Code.cond (.tmp s) x y).ww ro ds P Q a w:=mc (fC hI hk) (λh=>ht (of_decide_eq_true h)) λh=>hf (of_decide_eq_false h)
theorem Ir (hI:Inv c V [] G none_ a w) (hb:b=true) (ht:x.ww ro ds P Q a w) (hk:dz s G=some (pB b):=by exact rfl):(Code.cond (.tmp s) x y).ww ro ds P Q a w:=mc (fC hI hk) (λ_=>ht) λh=>by rw[hb]at h; cases h
theorem mb (hI:Inv c V [] G none_ a w) (hb:b=false) (hf:y.ww ro ds P Q a w) (hk:dz s G=some (pB b):=by exact rfl):(Code.cond (.tmp s) x y).ww ro ds P Q a w:=mc (fC hI hk) (λh=>by rw[hb]at h; cases h) λ_=>hf
theorem qz {ι:Type} {C:Code} (VF:List Vr) (GF:List aN) (V1:ι->List Vr) (G1:ι->List aN) (φ:ι->Prop) (μ:ι->Nat) (k0:ι) (h0:φ k0) (hI:Inv c V [] G none_ a w) (hV:DB V (VF++V1 k0)) (hG:DA G (GF++G1 k0))
  (round:∀k a w,φ k->Inv c (VF++V1 k) [] (GF++G1 k) none_ a w->C.ww ro ds P (Exit.then (λa w=>∃k',(φ k'/\Inv c (VF++V1 k') [] (GF++G1 k') none_ a w)/\μ k'<μ k) Q) a w):(Code.loop C).ww ro ds P Q a w:=
 Cw (λk a w=>φ k/\Inv c (VF++V1 k) [] (GF++G1 k) none_ a w) μ k0 ⟨h0,hI.cv hV hG⟩ λk a w h=>round k a w h.1 h.2
variable {p q:Pred}
theorem cm (h:dz s G=some q:=by exact rfl) (hq:∀w v,q w v->p w v:=by exact Ak):cw P V G (.tmp s) p:=rt hq h
theorem vh {x:Vr} {T:Nat} (h:ia s V=some x:=by exact rfl) (hs:x.slot=s:=by exact rfl) (hb:live none_ x=true:=by exact rfl) (bR:x.kd=.ptr:=by exact rfl) (hc:cont none_ x.c0 x.st=pv q:=by exact rfl) (hq:∀w v,q w v->p w v:=by exact Ak) (ht:wQ P T x.agg x.n=true:=by kernel_rfl):cw P V G (.cell s T) p:=(cH h).1.elim λk hk=>.imp (.cell k hk hb bR hs (bV ht) hc) hq
end
section
variable {P:Program} {w:World} {fn:Func}{f:FuncId} {C:Code} {M:Nat->Nat->Prop} {p:Pred} {N:Nat}
theorem jD {vs:List Value} {G:List aN} (hf:P.funcs[f]?=some fn) (hb:fn.body=some C) (hN:fn.ntmps=N) (hlen:decide (vs.length<=N)=true) (hM:cS M w) (hG:eR M w vs G)
  (h:∀a,Inv ⟨N,w,M,λ_=>False⟩ [] [] G none_ a w->C.ww none [] P (bodyPost P fn (cI M p w)) a w):Calls P f vs.toArray w (cI M p w):=
 qO hf hb hN hlen hM hG λa hI=>(wpIn_wide (n:=0)).1 (wpIn_mono (h a hI 0) λe a' w' ⟨a0,e0,h0⟩=>by subst e0; exact h0)
theorem Cu (hf:P.funcs[f]?=some fn) (hb:fn.body=some C) (hN:fn.ntmps=N) (hlen:decide (([]:List Value).length<=N)=true) (hM:cS M w) (h:∀a,Inv ⟨N,w,M,λ_=>False⟩ [] [] [] none_ a w->C.ww none [] P (bodyPost P fn (cI M p w)) a w):Calls P f #[] w (cI M p w):=
 jD (vs:=([]:List Value)) hf hb hN hlen hM (show eR M w ([]:List Value) []from trivial) h
variable {v0:Value} {p0:Pred}
theorem fR (hf:P.funcs[f]?=some fn) (hb:fn.body=some C) (hN:fn.ntmps=N) (hlen:decide ([v0].length<=N)=true) (hM:cS M w) (h0:aJ M (λw=>p0 w v0) w) (h:∀a,Inv ⟨N,w,M,λ_=>False⟩ [] [] [Uz 0 p0] none_ a w->C.ww none [] P (bodyPost P fn (cI M p w)) a w):Calls P f #[v0] w (cI M p w):=
 jD (vs:=[v0]) hf hb hN hlen hM (show eR M w [v0] [Uz 0 p0]from⟨⟨rfl,_,rfl,h0⟩,trivial⟩) h
variable {v1:Value} {p1:Pred}
theorem fT (hf:P.funcs[f]?=some fn) (hb:fn.body=some C) (hN:fn.ntmps=N) (hlen:decide ([v0,v1].length<=N)=true) (hM:cS M w) (h0:aJ M (λw=>p0 w v0) w) (h1:aJ M (λw=>p1 w v1) w) (h:∀a,Inv ⟨N,w,M,λ_=>False⟩ [] [] [Uz 0 p0,Uz 1 p1] none_ a w->C.ww none [] P (bodyPost P fn (cI M p w)) a w):Calls P f #[v0,v1] w (cI M p w):=
 jD (vs:=[v0,v1]) hf hb hN hlen hM (show eR M w [v0,v1] [Uz 0 p0,Uz 1 p1]from⟨⟨rfl,_,rfl,h0⟩,⟨rfl,_,rfl,h1⟩,trivial⟩) h
theorem Iv {v2 v3 v4:Value} {p2 p3 p4:Pred} (hf:P.funcs[f]?=some fn) (hb:fn.body=some C) (hN:fn.ntmps=N) (hlen:decide ([v0,v1,v2,v3,v4].length<=N)=true) (hM:cS M w) (h0:aJ M (λw=>p0 w v0) w) (h1:aJ M (λw=>p1 w v1) w) (h2:aJ M (λw=>p2 w v2) w) (h3:aJ M (λw=>p3 w v3) w) (h4:aJ M (λw=>p4 w v4) w) (h:∀a,Inv ⟨N,w,M,λ_=>False⟩ [] [] [Uz 0 p0,Uz 1 p1,Uz 2 p2,Uz 3 p3,Uz 4 p4] none_ a w->C.ww none [] P (bodyPost P fn (cI M p w)) a w):Calls P f #[v0,v1,v2,v3,v4] w (cI M p w):=
 jD (vs:=[v0,v1,v2,v3,v4]) hf hb hN hlen hM (show eR M w [v0,v1,v2,v3,v4] [Uz 0 p0,Uz 1 p1,Uz 2 p2,Uz 3 p3,Uz 4 p4]from⟨⟨rfl,_,rfl,h0⟩,⟨rfl,_,rfl,h1⟩,⟨rfl,_,rfl,h2⟩,⟨rfl,_,rfl,h3⟩,⟨rfl,_,rfl,h4⟩,trivial⟩) h
end
abbrev K0 (P:Program) (f:FuncId) (p:Pred):Prop:=∀(M:Nat->Nat->Prop) (w:World),cS M w->Calls P f #[] w (cI M p w)
abbrev K1 (P:Program) (f:FuncId) (p0 p:Pred):Prop:=∀(M:Nat->Nat->Prop) (w:World) (v0:Value),cS M w->aJ M (λw=>p0 w v0) w->Calls P f #[v0] w (cI M p w)
abbrev K2 (P:Program) (f:FuncId) (p0 p1 p:Pred):Prop:=∀(M:Nat->Nat->Prop) (w:World) (v0 v1:Value),cS M w->aJ M (λw=>p0 w v0) w->aJ M (λw=>p1 w v1) w->Calls P f #[v0,v1] w (cI M p w)
end Wx

namespace Wx
open Go Go.RowKit
set_option linter.unusedVariables false
def kY (n:Int):Int:=IntKind.u32.wrap n
section
variable {P:Program} {ops:Array Oper} {ms:List Nat} {c:bQ} {V:List Vr} {A:List Al} {G:List aN} {i d:Nat} {x y z:Operand} {ty t u:TypeId} {pos:String} {aft:Array Edge} {m n:Int} {s r:ByteArray}
theorem zR (s r:ByteArray):(s.toList==r.toList)=decide (s=r):=by
 rw[ByteArray.toList_eq,ByteArray.toList_eq]
 by_cases e:s=r
 ·rw[e,decide_eq_true rfl]; exact beq_self_eq_true _
 ·rw[decide_eq_false e]
  refine beq_eq_false_iff_ne.2 λh=>e ?_
  obtain⟨⟨l⟩⟩:=s
  obtain⟨⟨k⟩⟩:=r
  have h:l=k:=h
  rw[h]
theorem zg (h1:Has ms G i x (pT s)) (h2:Has ms G i y (pT r)) (hp:Post G i (pB (decide (s=r)))):OpOk P ops ms c V A G i ⟨some d,.binOp .eql t x y u,ty,pos,aft,none⟩:=
 eM rfl rfl rfl rfl h1 h2 hp λρ w h1 h2=>⟨.bool (decide (s=r)),by
  have h1:ρ x=.string s:=h1
  have h2:ρ y=.string r:=h2
  show(do pure (Next.value (<-(do eqGuard .eql t x y (ρ x) (ρ y); Go.binOp .eql t (ρ x) (ρ y))))).run P w=_
  rw[h1,h2]
  have hgd:eqGuard .eql t x y (.string s) (.string r)=pure ():=by unfold eqGuard; rfl
  rw[hgd,binOp_string_eql,zR]
  rfl,λ_ _ _=>rfl⟩
theorem Dk (h1:Has ms G i x (pT s)) (h2:Has ms G i y (pT r)) (hp:Post G i (pB (decide (s≠r)))):OpOk P ops ms c V A G i ⟨some d,.binOp .neq t x y u,ty,pos,aft,none⟩:=
 eM rfl rfl rfl rfl h1 h2 hp λρ w h1 h2=>⟨.bool (decide (s≠r)),by
  have h1:ρ x=.string s:=h1
  have h2:ρ y=.string r:=h2
  show(do pure (Next.value (<-(do eqGuard .neq t x y (ρ x) (ρ y); Go.binOp .neq t (ρ x) (ρ y))))).run P w=_
  rw[h1,h2]
  have hgd:eqGuard .neq t x y (.string s) (.string r)=pure ():=by unfold eqGuard; rfl
  rw[hgd,binOp_string_neq,zR,decide_not]
  rfl,λ_ _ _=>rfl⟩
theorem bU {o:Oper} (h:OpOk P ops ms c V A G i o:=by
 first
 |exact zg hs hs (pt rfl)
 |exact Dk hs hs (pt rfl)):OpOk P ops ms c V A G i o:=h
theorem D5 {φ:Prop} (hc:φ) {o:Oper} (h:φ->OpOk P ops ms c V A G i o:=by
 intro hc
 first
 |exact zg hg hg (pg hc rfl)
 |exact Dk hg hg (pg hc rfl)):OpOk P ops ms c V A G i o:=h hc
theorem CF {S D:TypeId} (h:Has ms G i x (sM m):=by exact hs) (hr:∀w,(Go.convert S D (.int .u8 m)).run P w=.ok (.int .u32 (IntKind.u32.wrap m)) w:=by exactλ_=>by kernel_rfl) (hp:Post G i (ei (kY m)):=by exact pt rfl):OpOk P ops ms c V A G i ⟨some d,.convert S D x,ty,pos,aft,none⟩:=fY h hr hp
theorem xk (h1:Has ms G i x (ei m):=by exact hs) (h2:Has ms G i y (ei n):=by exact hs) (hp:Post G i (ei (kY (m+n))):=by exact pt rfl):OpOk P ops ms c V A G i ⟨some d,.binOp .add t x y u,ty,pos,aft,none⟩:=cD (v:=.int .u32 (IntKind.u32.wrap (m+n))) h1 h2 (λ_=>rfl) hp
theorem HK (h1:Has ms G i x (ei m):=by exact hs) (h2:Has ms G i y (ei n):=by exact hs) (hp:Post G i (ei (kY (m*n))):=by exact pt rfl):OpOk P ops ms c V A G i ⟨some d,.binOp .mul t x y u,ty,pos,aft,none⟩:=cD (v:=.int .u32 (IntKind.u32.wrap (m*n))) h1 h2 (λ_=>rfl) hp
def wA (P:Program) (C:FuncId->Prop):Pred:=λ_ v=>∃f,v=.func (.func f) #[] #[]/\aK P f/\C f
variable {C:FuncId->Prop}
theorem kU {f:FuncId} (hc:C f) (hf:aK P f:=by exactλ_ _=>by kernel_rfl):∀w v,aG (.func (.func f) #[] #[]) w v->wA P C w v:=λw v h=>⟨f,h,hf,hc⟩
variable {fx:Operand} {ts:Array TypeId}
theorem rV {p p1:Pred} (hx:Has ms G i fx (wA P C)) (h1:Has ms G i x p1) (hp:Post G i p) (hc:∀f,C f->∀(M:Nat->Nat->Prop) (w:World) (v1:Value),cS M w->aJ M (λw=>p1 w v1) w->Calls P f #[v1] w (cI M p w)):OpOk P ops ms c V A G i ⟨some d,.call ⟨.value fx,#[x],ts⟩,ty,pos,aft,none⟩:=by
 refine eZ (λL β a w hI hd hwf=>?_) rfl
 obtain⟨f,sL,hf,hC⟩:=(hx.spec hI hd).out
 have hr:(execOp a.eval ⟨some d,.call ⟨.value fx,#[x],ts⟩,ty,pos,aft,none⟩).run P w=.ok (.enter f #[a.eval x]) w:=by
  have:=hf #[a.eval x] w
  simp only[execOp,resolve,sL,Deferred.ofValue,pure_bind,invoke]
  rw[show(#[x]:Array Operand).map a.eval=#[a.eval x] by simp]
  first|exact this|simpa using this
 unfold Does
 rw[hr]
 refine(hc f hC _ w _ (aF hI) (h1.spec hI hd)).mono ?_
 rintro e w' ⟨v,rfl,hv,hb⟩
 exact⟨v,rfl,β,hI.value hwf (lA hwf rfl) rfl hb (λd q _ hq xb _=>by have:=hwf.aa q hq xb; cases this) λe he ht=>hv.imp λw=>hp.spec hwf he ht w v⟩
abbrev Gc (P:Program) (φ:Int->Bool) (f:FuncId):Prop:=∀x:Int,0<=x/\x<=255->K1 P f (sM x) (pB (φ x))
abbrev qE (P:Program) (φ:ByteArray->Bool) (f:FuncId):Prop:=∀s:ByteArray,s.size<=1000000->K1 P f (pT s) (pB (φ s))
theorem LQ {φ:Int->Bool} (hx:Has ms G i fx (wA P (Gc P φ)):=by exact hs) (h1:Has ms G i x (sM m):=by exact hs) (hm:0<=m/\m<=255:=by first|exact xw _ _|omega) (hp:Post G i (pB (φ m)):=by exact pt rfl):OpOk P ops ms c V A G i ⟨some d,.call ⟨.value fx,#[x],ts⟩,ty,pos,aft,none⟩:=rV hx h1 hp λ_ hC=>hC m hm
theorem LS {φ:ByteArray->Bool} (hx:Has ms G i fx (wA P (qE P φ)):=by exact hs) (h1:Has ms G i x (pT s):=by exact hs) (hm:s.size<=1000000:=by omega) (hp:Post G i (pB (φ s)):=by exact pt rfl):OpOk P ops ms c V A G i ⟨some d,.call ⟨.value fx,#[x],ts⟩,ty,pos,aft,none⟩:=rV hx h1 hp λ_ hC=>hC s hm
end
end Wx
