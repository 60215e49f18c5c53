import Derived.Test.YtfnmkhlleanppaaGreatDoorJWB19
namespace Wx
open Go Go.RowKit
set_option linter.unusedVariables false
def nE (n:Int):Int:=IntKind.u32.wrap n
section
variable {P:Program} {ops:Array Oper} {ms:List Nat} {c:bJ} {V:List Vr} {A:List Al} {G:List aI} {i d:Nat} {x y z:Operand} {ty t u:TypeId} {pos:String} {au:Array Edge} {m n:Int} {s r:ByteArray}
theorem vM (s r:ByteArray):(s.toList==r.toList)=decide (s=r):=by
 rw[ByteArray.toList_eq,ByteArray.toList_eq]
 by_cases e:s=r
 ·rw[e,decide_eq_true rfl]; exact beq_self_eq_true _
 ·rw[decide_eq_false e]
  refine beq_eq_false_iff_ne.2 λh=>e ?_
  obtain⟨⟨l⟩⟩:=s
  obtain⟨⟨k⟩⟩:=r
  have h:l=k:=h
  rw[h]
theorem vc (h1:Has ms G i x (pT s)) (h2:Has ms G i y (pT r)) (hp:Post G i (pB (decide (s=r)))):OpOk P ops ms c V A G i ⟨some d,.binOp .eql t x y u,ty,pos,au,none⟩:=
 dz rfl rfl rfl rfl h1 h2 hp λρ w h1 h2=>⟨.bool (decide (s=r)),by
  have h1:ρ x=.string s:=h1
  have h2:ρ y=.string r:=h2
  show(do pure (Next.value (<-(do eqGuard .eql t x y (ρ x) (ρ y); Go.binOp .eql t (ρ x) (ρ y))))).run P w=_
  rw[h1,h2]
  have hgd:eqGuard .eql t x y (.string s) (.string r)=pure ():=by unfold eqGuard; rfl
  rw[hgd,binOp_string_eql,vM]
  rfl,λ_ _ _=>rfl⟩
theorem yX (h1:Has ms G i x (pT s)) (h2:Has ms G i y (pT r)) (hp:Post G i (pB (decide (s≠r)))):OpOk P ops ms c V A G i ⟨some d,.binOp .neq t x y u,ty,pos,au,none⟩:=
 dz rfl rfl rfl rfl h1 h2 hp λρ w h1 h2=>⟨.bool (decide (s≠r)),by
  have h1:ρ x=.string s:=h1
  have h2:ρ y=.string r:=h2
  show(do pure (Next.value (<-(do eqGuard .neq t x y (ρ x) (ρ y); Go.binOp .neq t (ρ x) (ρ y))))).run P w=_
  rw[h1,h2]
  have hgd:eqGuard .neq t x y (.string s) (.string r)=pure ():=by unfold eqGuard; rfl
  rw[hgd,binOp_string_neq,vM,decide_not]
  rfl,λ_ _ _=>rfl⟩
theorem bU {o:Oper} (h:OpOk P ops ms c V A G i o:=by
 first
 |exact vc hs hs (pt rfl)
 |exact yX hs hs (pt rfl)):OpOk P ops ms c V A G i o:=h
theorem EU {φ:Prop} (hc:φ) {o:Oper} (h:φ->OpOk P ops ms c V A G i o:=by
 intro hc
 first
 |exact vc hg hg (pg hc rfl)
 |exact yX hg hg (pg hc rfl)):OpOk P ops ms c V A G i o:=h hc
theorem BU {S D:TypeId} (h:Has ms G i x (fD m):=by exact hs) (hr:∀w,(Go.convert S D (.int .u8 m)).run P w=.ok (.int .u32 (IntKind.u32.wrap m)) w:=by exactλ_=>by kernel_rfl) (hp:Post G i (gD (nE m)):=by exact pt rfl):OpOk P ops ms c V A G i ⟨some d,.convert S D x,ty,pos,au,none⟩:=dU h hr hp
theorem BH (h1:Has ms G i x (gD m):=by exact hs) (h2:Has ms G i y (gD n):=by exact hs) (hp:Post G i (gD (nE (m+n))):=by exact pt rfl):OpOk P ops ms c V A G i ⟨some d,.binOp .add t x y u,ty,pos,au,none⟩:=cm (v:=.int .u32 (IntKind.u32.wrap (m+n))) h1 h2 (λ_=>rfl) hp
theorem Er (h1:Has ms G i x (gD m):=by exact hs) (h2:Has ms G i y (gD n):=by exact hs) (hp:Post G i (gD (nE (m*n))):=by exact pt rfl):OpOk P ops ms c V A G i ⟨some d,.binOp .mul t x y u,ty,pos,au,none⟩:=cm (v:=.int .u32 (IntKind.u32.wrap (m*n))) h1 h2 (λ_=>rfl) hp
def sW (P:Program) (C:FuncId->Prop):Pred:=λ_ v=>∃f,v=.func (.func f) #[] #[]/\aA P f/\C f
variable {C:FuncId->Prop}
theorem kM {f:FuncId} (hc:C f) (hf:aA P f:=by exactλ_ _=>by kernel_rfl):∀w v,aJ (.func (.func f) #[] #[]) w v->sW P C w v:=λw v h=>⟨f,h,hf,hc⟩
variable {fx:Operand} {ts:Array TypeId}
theorem oU {p p1:Pred} (hx:Has ms G i fx (sW P C)) (h1:Has ms G i x p1) (hp:Post G i p) (hc:∀f,C f->∀(M:Nat->Nat->Prop) (w:World) (v1:Value),dm M w->aK M (λw=>p1 w v1) w->Calls P f #[v1] w (bX M p w)):OpOk P ops ms c V A G i ⟨some d,.call ⟨.value fx,#[x],ts⟩,ty,pos,au,none⟩:=by
 refine dJ (λL β a w hI hd hwf=>?_) rfl
 obtain⟨f,tF,hf,hC⟩:=(hx.spec hI hd).out
 have hr:(execOp a.eval ⟨some d,.call ⟨.value fx,#[x],ts⟩,ty,pos,au,none⟩).run P w=.ok (.enter f #[a.eval x]) w:=by
  have:=hf #[a.eval x] w
  simp only[execOp,resolve,tF,Deferred.ofValue,pure_bind,invoke]
  rw[show(#[x]:Array Operand).map a.eval=#[a.eval x] by simp]
  first|exact this|simpa using this
 unfold Does
 rw[hr]
 refine(hc f hC _ w _ (aL hI) (h1.spec hI hd)).mono ?_
 rintro e w' ⟨v,rfl,hv,hb⟩
 exact⟨v,rfl,β,hI.value hwf (jz hwf rfl) rfl hb (λd q _ hq tJ _=>by have:=hwf.aa q hq tJ; cases this) λe he ht=>hv.imp λw=>hp.spec hwf he ht w v⟩
abbrev BF (P:Program) (φ:Int->Bool) (f:FuncId):Prop:=∀x:Int,0<=x/\x<=255->K1 P f (fD x) (pB (φ x))
abbrev nN (P:Program) (φ:ByteArray->Bool) (f:FuncId):Prop:=∀s:ByteArray,s.size<=1000000->K1 P f (pT s) (pB (φ s))
theorem FE {φ:Int->Bool} (hx:Has ms G i fx (sW P (BF P φ)):=by exact hs) (h1:Has ms G i x (fD m):=by exact hs) (hm:0<=m/\m<=255:=by first|exact jc _ _|omega) (hp:Post G i (pB (φ m)):=by exact pt rfl):OpOk P ops ms c V A G i ⟨some d,.call ⟨.value fx,#[x],ts⟩,ty,pos,au,none⟩:=oU hx h1 hp λ_ hC=>hC m hm
theorem FH {φ:ByteArray->Bool} (hx:Has ms G i fx (sW P (nN P φ)):=by exact hs) (h1:Has ms G i x (pT s):=by exact hs) (hm:s.size<=1000000:=by omega) (hp:Post G i (pB (φ s)):=by exact pt rfl):OpOk P ops ms c V A G i ⟨some d,.call ⟨.value fx,#[x],ts⟩,ty,pos,au,none⟩:=oU hx h1 hp λ_ hC=>hC s hm
end
end Wx

namespace Wx
open Go Go.RowKit
section
variable {P:Program} {ops:Array Oper} {ms:List Nat} {c:bJ} {V:List Vr} {A:List Al} {G:List aI} {i:Nat} {L:Nat->Bool} {β:Nat->Nat->Prop} {a:Act} {w:World} {o:Oper}{d:Nat} {x y z:Operand} {ty:TypeId} {pos:String} {au:Array Edge}
theorem Inv.CM {Λ:Type} {C:Λ->Prop} {hd:Λ->Value} {Hl:Λ->List Bk} {id s n0 T n:Nat} {ag:Bool} (h:Inv c V [] G none_ a w) (hk:V[n0]?=some ⟨id,s,none,none,.obj,T,n,ag,λB w v=>∃l,C l/\v=hd l/\bN B w (Hl l),[]⟩) (hinj:∀l l',hd l=hd l'->l=l')
  (hu:(V.filter λy=>y.id==id).length=1):∃l,C l/\Inv c (V.set n0 (aP id s (Hl l))) [] (⟨none,none,s,aJ (hd l)⟩::G) none_ a w:=by
 obtain⟨β,h⟩:=h
 have hx:=List.mem_of_getElem? hk
 obtain⟨h1,h2⟩:=(aQ rfl).1 (h.var _ hx rfl)
 obtain⟨l,k1,k2,k3⟩:=h2.out
 refine⟨l,k1,β,h.size,h.defers,h.below,h.old,?_,?_,(λp hp=>by cases hp),?_⟩
 all_goals
  have zX:n0<V.length:=by
   rcases Nat.lt_or_ge n0 V.length with h'|h'
   ·exact h'
   ·rw[List.getElem?_eq_none h']at hk; cases hk
  have hsub:∀y,y∈V.set n0 (aP id s (Hl l))->y=aP id s (Hl l)\/(y∈V/\y.id≠id):=λy hy=>by
   obtain⟨j,hj⟩:=List.mem_iff_getElem?.1 hy
   by_cases Ci:j=n0
   ·subst Ci
    rw[List.getElem?_set_self zX]at hj
    exact .inl (Option.some.inj hj).symm
   ·rw[List.getElem?_set_ne (Ne.symm Ci)]at hj
    have dI:=List.mem_of_getElem? hj
    by_cases hid:y.id=id
    ·exfalso
     have e:=bK hu dI hx (by simpa using hid) (by simp)
     subst e
     have hge:((V.filter λy=>y.id==id).length)>=2:=by
      have jx:[(⟨id,s,none,none,.obj,T,n,ag,λB w v=>∃l,C l/\v=hd l/\bN B w (Hl l),[]⟩:Vr),⟨id,s,none,none,.obj,T,n,ag,λB w v=>∃l,C l/\v=hd l/\bN B w (Hl l),[]⟩].Sublist V:=by
       rcases Nat.lt_or_ge j n0 with hlt|hge
       ·exact iQ hj hk hlt
       ·exact iQ hk hj (by omega)
      have:=(jx.filter λy=>y.id==id).length_le
      simpa using this
     omega
    ·exact .inr ⟨dI,hid⟩
  have eo:∀k o,own c (V.set n0 (aP id s (Hl l))) none_ β k o->own c V none_ β k o:=by
   rintro k o (h1|⟨y,hy,h1,h2,h3⟩)
   ·exact .inl h1
   ·rcases hsub y hy with rfl|⟨hy,_⟩
    ·exact .inr ⟨_,hx,rfl,h2,Nat.zero_le _⟩
    ·exact .inr ⟨y,hy,h1,h2,h3⟩
 ·intro y hy hl
  rcases hsub y hy with rfl|⟨hy,_⟩
  ·refine(aQ rfl).2 ⟨h1,λw'' he=>?_⟩
   obtain⟨l',_,e2,e3⟩:=h2 w'' (he.mono' λk o hh=>⟨eo k o hh.1,hh.2⟩)
   have e2:sl a s=hd l':=e2
   have k2:sl a s=hd l:=k2
   have:l'=l:=hinj _ _ (e2.symm.trans k2)
   subst this
   exact e3
  ·exact(h.var y hy hl).keep rfl rfl (λ_ _=>rfl) (Nat.le_refl _) (λF hF=>hF.sub λk o _=>eo k o) (λF hF=>hF.sub λk o _ hh=>⟨eo k o hh.1,hh.2⟩) rfl
 ·intro y z g hy hz h1 h2 hne
  rcases hsub y hy with rfl|⟨hy,h5⟩<;>rcases hsub z hz with rfl|⟨hz,h7⟩
  ·exact absurd rfl hne
  ·have:=h.apart _ z g hx hz rfl h2 (λe=>h7 e.symm)
   exact this
  ·have:=h.apart y _ g hy hx h1 rfl h5
   exact this
  ·exact h.apart y z g hy hz h1 h2 hne
 ·intro e he ho hf
  rcases List.mem_cons.1 he with rfl|he
  ·exactλ_ _=>k2
  ·exact(h.gK e he ho hf).sub λk o _ hh=>eo k o hh
variable {fn:Func}
end
end Wx

namespace Wx
open Go Go.RowKit
section
variable {c:bJ} {V:List Vr} {G:List aI} {a:Act} {w:World}
end
section
variable {P:Program} {ops:Array Oper} {ms:List Nat} {c:bJ} {V:List Vr} {A:List Al} {G:List aI} {i:Nat} {d:Nat} {x y z u:Operand} {ty:TypeId} {pos:String} {au:Array Edge}
end
end Wx

namespace Wx
open Go Go.RowKit
section
variable {P:Program} {ops:Array Oper} {ms:List Nat} {c:bJ} {V:List Vr} {A:List Al} {G:List aI} {i:Nat} {L:Nat->Bool} {β:Nat->Nat->Prop} {a:Act} {w:World} {o:Oper}{d:Nat} {x y z:Operand} {ty:TypeId} {pos:String} {au:Array Edge}
theorem kK {T E:TypeId} {sz n m:Nat} {ag:Bool} {f:Nat->Pred} (h:Has ms G i x (ax sz ag n f)) (hy:Has ms G i y (pI (m:Int))) (ht:eX P T E sz) (hm:m<=n) (hp:Post G i (ax sz ag m f)):OpOk P ops ms c V A G i ⟨some d,.slice T x none (some y) none,ty,pos,au,none⟩:=
 bk rfl rfl rfl (.inl rfl) hp λL β a w hI hd=>by
  have k:=h.spec hI hd
  obtain⟨A',cap,ex,h1,h2,_⟩:=k.out
  have ex:a.eval x=.slice A' n cap:=ex
  have ey:a.eval y=.int .i64 m:=(hy.spec hI hd).out
  refine⟨.slice A' m cap,w,?_,Below.refl _ _,k.imp λw' ⟨A2,nY,e2,h3,h4,h5⟩=>?_⟩
  ·show(do pure (Next.value (<-Instr.sliceAt T (a.eval x) none (some (a.eval y)) none))).run P w=_
   rw[ex,ey]
   have hr:(Instr.sliceAt T (.slice A' n cap) none (some (.int .i64 m)) none).run P w=.ok (.slice A' m cap) w:=by
    have e1:(Instr.sliceBound (.int .i64 m) cap .sliceAcap).run P w=.ok m w:=by
     have:=run_sliceBound (P:=P) w .i64 (m:Int) cap .sliceAcap (by omega) (by omega)
     simpa using this
    have e3:A'.map (λq=>q.add 0)=A':=by
     cases A' with
     |none=>rfl
     |some q=>rfl
    simp only[Instr.sliceAt,Sem.run_bind,run_underlying ht.under,Result.andThen_ok,Instr.slice,Instr.sliceBounds,Sem.run_pure]
    simp only[e1,Result.andThen_ok,ht.size w,Nat.zero_mul,Nat.sub_zero,e3,ite_self,if_true]
   rw[Sem.run_bind,hr]
   rfl
  ·have e2:a.eval x=.slice A2 n nY:=e2
   rw[ex]at e2
   injection e2 with e2 _ e4
   subst e2 e4
   exact⟨A',cap,rfl,by omega,h4,λh0=>by
    obtain⟨b,o',hA,hf⟩:=h5 (by omega)
    exact⟨b,o',hA,λq hq=>hf q (by omega)⟩⟩
end
end Wx
