import Derived.Test.YtfnmkhlleanppaaGreatDoorJWN19
namespace Wx
open Go Go.RowKit
set_option linter.unusedVariables false
def ny (n:Int):Int:=IntKind.u32.wrap n
section
variable {P:Program} {ops:Array Oper} {ms:List Nat} {c:bD} {V:List Vr} {A:List Al} {G:List aD} {i d:Nat} {x y z:Operand} {ty t u:TypeId} {pos:String} {aj:Array Edge} {m n:Int} {s r:ByteArray}
theorem tC (s r:ByteArray):(s.toList==r.toList)=decide (s=r):=by
 rw[ByteArray.toList_eq,ByteArray.toList_eq]
 by_cases e:s=r
 ·rw[e,decide_eq_true rfl]; exact beq_self_eq_true _
 ·rw[decide_eq_false e]
  refine beq_eq_false_iff_ne.2 λh=>e ?_
  obtain⟨⟨l⟩⟩:=s
  obtain⟨⟨k⟩⟩:=r
  have h:l=k:=h
  rw[h]
theorem sL (h1:Has ms G i x (pT s)) (h2:Has ms G i y (pT r)) (hp:Post G i (pB (decide (s=r)))):OpOk P ops ms c V A G i ⟨some d,.binOp .eql t x y u,ty,pos,aj,none⟩:=
 dP rfl rfl rfl rfl h1 h2 hp λρ w h1 h2=>⟨.bool (decide (s=r)),by
  have h1:ρ x=.string s:=h1
  have h2:ρ y=.string r:=h2
  show(do pure (Next.value (<-(do eqGuard .eql t x y (ρ x) (ρ y); Go.binOp .eql t (ρ x) (ρ y))))).run P w=_
  rw[h1,h2]
  have hgd:eqGuard .eql t x y (.string s) (.string r)=pure ():=by unfold eqGuard; rfl
  rw[hgd,binOp_string_eql,tC]
  rfl,λ_ _ _=>rfl⟩
theorem wk (h1:Has ms G i x (pT s)) (h2:Has ms G i y (pT r)) (hp:Post G i (pB (decide (s≠r)))):OpOk P ops ms c V A G i ⟨some d,.binOp .neq t x y u,ty,pos,aj,none⟩:=
 dP rfl rfl rfl rfl h1 h2 hp λρ w h1 h2=>⟨.bool (decide (s≠r)),by
  have h1:ρ x=.string s:=h1
  have h2:ρ y=.string r:=h2
  show(do pure (Next.value (<-(do eqGuard .neq t x y (ρ x) (ρ y); Go.binOp .neq t (ρ x) (ρ y))))).run P w=_
  rw[h1,h2]
  have hgd:eqGuard .neq t x y (.string s) (.string r)=pure ():=by unfold eqGuard; rfl
  rw[hgd,binOp_string_neq,tC,decide_not]
  rfl,λ_ _ _=>rfl⟩
theorem bU {o:Oper} (h:OpOk P ops ms c V A G i o:=by
 first
 |exact sL hs hs (pt rfl)
 |exact wk hs hs (pt rfl)):OpOk P ops ms c V A G i o:=h
theorem Ds {φ:Prop} (hc:φ) {o:Oper} (h:φ->OpOk P ops ms c V A G i o:=by
 intro hc
 first
 |exact sL hg hg (pg hc rfl)
 |exact wk hg hg (pg hc rfl)):OpOk P ops ms c V A G i o:=h hc
theorem zn {S D:TypeId} (h:Has ms G i x (wz m):=by exact hs) (hr:∀w,(Go.convert S D (.int .u8 m)).run P w=.ok (.int .u32 (IntKind.u32.wrap m)) w:=by exactλ_=>by kernel_rfl) (hp:Post G i (iw (ny m)):=by exact pt rfl):OpOk P ops ms c V A G i ⟨some d,.convert S D x,ty,pos,aj,none⟩:=fC h hr hp
theorem zf (h1:Has ms G i x (iw m):=by exact hs) (h2:Has ms G i y (iw n):=by exact hs) (hp:Post G i (iw (ny (m+n))):=by exact pt rfl):OpOk P ops ms c V A G i ⟨some d,.binOp .add t x y u,ty,pos,aj,none⟩:=bZ (v:=.int .u32 (IntKind.u32.wrap (m+n))) h1 h2 (λ_=>rfl) hp
theorem Ck (h1:Has ms G i x (iw m):=by exact hs) (h2:Has ms G i y (iw n):=by exact hs) (hp:Post G i (iw (ny (m*n))):=by exact pt rfl):OpOk P ops ms c V A G i ⟨some d,.binOp .mul t x y u,ty,pos,aj,none⟩:=bZ (v:=.int .u32 (IntKind.u32.wrap (m*n))) h1 h2 (λ_=>rfl) hp
def qy (P:Program) (C:FuncId->Prop):Pred:=λ_ v=>∃f,v=.func (.func f) #[] #[]/\ax P f/\C f
variable {C:FuncId->Prop}
theorem jv {f:FuncId} (hc:C f) (hf:ax P f:=by exactλ_ _=>by kernel_rfl):∀w v,aE (.func (.func f) #[] #[]) w v->qy P C w v:=λw v h=>⟨f,h,hf,hc⟩
variable {fx:Operand} {ts:Array TypeId}
theorem mV {p p1:Pred} (hx:Has ms G i fx (qy P C)) (h1:Has ms G i x p1) (hp:Post G i p) (hc:∀f,C f->∀(M:Nat->Nat->Prop) (w:World) (v1:Value),cQ M w->aL M (λw=>p1 w v1) w->Calls P f #[v1] w (bK M p w)):OpOk P ops ms c V A G i ⟨some d,.call ⟨.value fx,#[x],ts⟩,ty,pos,aj,none⟩:=by
 refine dI (λL β a w hI hd hwf=>?_) rfl
 obtain⟨f,qR,hf,hC⟩:=(hx.spec hI hd).out
 have hr:(execOp a.eval ⟨some d,.call ⟨.value fx,#[x],ts⟩,ty,pos,aj,none⟩).run P w=.ok (.enter f #[a.eval x]) w:=by
  have:=hf #[a.eval x] w
  simp only[execOp,resolve,qR,Deferred.ofValue,pure_bind,invoke]
  rw[show(#[x]:Array Operand).map a.eval=#[a.eval x] by simp]
  first|exact this|simpa using this
 unfold Does
 rw[hr]
 refine(hc f hC _ w _ (aF hI) (h1.spec hI hd)).mono ?_
 rintro e w' ⟨v,rfl,hv,hb⟩
 exact⟨v,rfl,β,hI.value hwf (fM hwf rfl) rfl hb (λd q _ hq nH _=>by have:=hwf.aa q hq nH; cases this) λe he ht=>hv.imp λw=>hp.spec hwf he ht w v⟩
abbrev zc (P:Program) (φ:Int->Bool) (f:FuncId):Prop:=∀x:Int,0<=x/\x<=255->K1 P f (wz x) (pB (φ x))
abbrev lV (P:Program) (φ:ByteArray->Bool) (f:FuncId):Prop:=∀s:ByteArray,s.size<=1000000->K1 P f (pT s) (pB (φ s))
theorem Dk {φ:Int->Bool} (hx:Has ms G i fx (qy P (zc P φ)):=by exact hs) (h1:Has ms G i x (wz m):=by exact hs) (hm:0<=m/\m<=255:=by first|exact wR _ _|omega) (hp:Post G i (pB (φ m)):=by exact pt rfl):OpOk P ops ms c V A G i ⟨some d,.call ⟨.value fx,#[x],ts⟩,ty,pos,aj,none⟩:=mV hx h1 hp λ_ hC=>hC m hm
theorem Dm {φ:ByteArray->Bool} (hx:Has ms G i fx (qy P (lV P φ)):=by exact hs) (h1:Has ms G i x (pT s):=by exact hs) (hm:s.size<=1000000:=by omega) (hp:Post G i (pB (φ s)):=by exact pt rfl):OpOk P ops ms c V A G i ⟨some d,.call ⟨.value fx,#[x],ts⟩,ty,pos,aj,none⟩:=mV hx h1 hp λ_ hC=>hC s hm
end
end Wx

namespace Wx
open Go Go.RowKit
section
variable {P:Program} {ops:Array Oper} {ms:List Nat} {c:bD} {V:List Vr} {A:List Al} {G:List aD} {i:Nat} {L:Nat->Bool} {β:Nat->Nat->Prop} {a:Act} {w:World} {o:Oper}{d:Nat} {x y z:Operand} {ty:TypeId} {pos:String} {aj:Array Edge}
theorem Inv.At {Λ:Type} {C:Λ->Prop} {hd:Λ->Value} {Hl:Λ->List Bk} {id s n0 T n:Nat} {ag:Bool} (h:Inv c V [] G none_ a w) (hk:V[n0]?=some ⟨id,s,none,none,.obj,T,n,ag,λB w v=>∃l,C l/\v=hd l/\bE B w (Hl l),[]⟩) (hinj:∀l l',hd l=hd l'->l=l')
  (hu:(V.filter λy=>y.id==id).length=1):∃l,C l/\Inv c (V.set n0 (aM id s (Hl l))) [] (⟨none,none,s,aE (hd l)⟩::G) none_ a w:=by
 obtain⟨β,h⟩:=h
 have hx:=List.mem_of_getElem? hk
 obtain⟨h1,h2⟩:=(aP rfl).1 (h.var _ hx rfl)
 obtain⟨l,k1,k2,k3⟩:=h2.out
 refine⟨l,k1,β,h.size,h.defers,h.below,h.old,?_,?_,(λp hp=>by cases hp),?_⟩
 all_goals
  have xw:n0<V.length:=by
   rcases Nat.lt_or_ge n0 V.length with h'|h'
   ·exact h'
   ·rw[List.getElem?_eq_none h']at hk; cases hk
  have hsub:∀y,y∈V.set n0 (aM id s (Hl l))->y=aM id s (Hl l)\/(y∈V/\y.id≠id):=λy hy=>by
   obtain⟨j,hj⟩:=List.mem_iff_getElem?.1 hy
   by_cases zN:j=n0
   ·subst zN
    rw[List.getElem?_set_self xw]at hj
    exact .inl (Option.some.inj hj).symm
   ·rw[List.getElem?_set_ne (Ne.symm zN)]at hj
    have cR:=List.mem_of_getElem? hj
    by_cases hid:y.id=id
    ·exfalso
     have e:=aW hu cR hx (by simpa using hid) (by simp)
     subst e
     have hge:((V.filter λy=>y.id==id).length)>=2:=by
      have yS:[(⟨id,s,none,none,.obj,T,n,ag,λB w v=>∃l,C l/\v=hd l/\bE B w (Hl l),[]⟩:Vr),⟨id,s,none,none,.obj,T,n,ag,λB w v=>∃l,C l/\v=hd l/\bE B w (Hl l),[]⟩].Sublist V:=by
       rcases Nat.lt_or_ge j n0 with hlt|hge
       ·exact gR hj hk hlt
       ·exact gR hk hj (by omega)
      have:=(yS.filter λy=>y.id==id).length_le
      simpa using this
     omega
    ·exact .inr ⟨cR,hid⟩
  have eo:∀k o,own c (V.set n0 (aM id s (Hl l))) none_ β k o->own c V none_ β k o:=by
   rintro k o (h1|⟨y,hy,h1,h2,h3⟩)
   ·exact .inl h1
   ·rcases hsub y hy with rfl|⟨hy,_⟩
    ·exact .inr ⟨_,hx,rfl,h2,Nat.zero_le _⟩
    ·exact .inr ⟨y,hy,h1,h2,h3⟩
 ·intro y hy hl
  rcases hsub y hy with rfl|⟨hy,_⟩
  ·refine(aP rfl).2 ⟨h1,λw'' he=>?_⟩
   obtain⟨l',_,e2,e3⟩:=h2 w'' (he.mono' λk o hh=>⟨eo k o hh.1,hh.2⟩)
   have e2:sl a s=hd l':=e2
   have k2:sl a s=hd l:=k2
   have:l'=l:=hinj _ _ (e2.symm.trans k2)
   subst this
   exact e3
  ·exact(h.var y hy hl).keep rfl rfl (λ_ _=>rfl) (Nat.le_refl _) (λF hF=>hF.sub λk o _=>eo k o) (λF hF=>hF.sub λk o _ hh=>⟨eo k o hh.1,hh.2⟩) rfl
 ·intro y z g hy hz h1 h2 hne
  rcases hsub y hy with rfl|⟨hy,h5⟩<;>rcases hsub z hz with rfl|⟨hz,h7⟩
  ·exact absurd rfl hne
  ·have:=h.apart _ z g hx hz rfl h2 (λe=>h7 e.symm)
   exact this
  ·have:=h.apart y _ g hy hx h1 rfl h5
   exact this
  ·exact h.apart y z g hy hz h1 h2 hne
 ·intro e he ho hf
  rcases List.mem_cons.1 he with rfl|he
  ·exactλ_ _=>k2
  ·exact(h.fq e he ho hf).sub λk o _ hh=>eo k o hh
variable {fn:Func}
end
end Wx

namespace Wx
open Go Go.RowKit
section
variable {c:bD} {V:List Vr} {G:List aD} {a:Act} {w:World}
end
section
variable {P:Program} {ops:Array Oper} {ms:List Nat} {c:bD} {V:List Vr} {A:List Al} {G:List aD} {i:Nat} {d:Nat} {x y z u:Operand} {ty:TypeId} {pos:String} {aj:Array Edge}
end
end Wx

namespace Wx
open Go Go.RowKit
section
variable {P:Program} {ops:Array Oper} {ms:List Nat} {c:bD} {V:List Vr} {A:List Al} {G:List aD} {i:Nat} {L:Nat->Bool} {β:Nat->Nat->Prop} {a:Act} {w:World} {o:Oper}{d:Nat} {x y z:Operand} {ty:TypeId} {pos:String} {aj:Array Edge}
end
end Wx

namespace Wx
open Go Go.RowKit
section
variable {P:Program} {ops:Array Oper} {ms:List Nat} {c:bD} {V:List Vr} {A:List Al} {G:List aD} {i:Nat}{d:Nat} {x y z:Operand} {ty:TypeId} {pos:String} {aj:Array Edge}
theorem yF {T:TypeId} {sz n:Nat} {ag:Bool} {f:Nat->Pred} (m:Nat) (h:Has ms G i x (aK sz ag n f):=by exact hs) (hy:Has ms G i y (pI (m:Int)):=by exact hs) (hm:m<n:=by omega) (hp:Post G i (aK sz ag (n-m) λk=>f (m+k)):=by exact pt rfl) (ht:Bc P T sz=true:=by kernel_rfl):OpOk P ops ms c V A G i ⟨some d,.slice T x (some y) none none,ty,pos,aj,none⟩:=by
 obtain⟨E,hE⟩:=tA ht
 exact bu rfl rfl rfl (.inl rfl) hp λL β a w hI hd=>by
  have k:=h.spec hI hd
  obtain⟨A',cap,ex,h1,h2,h3⟩:=k.out
  have ex:a.eval x=.slice A' n cap:=ex
  have ey:a.eval y=.int .i64 m:=(hy.spec hI hd).out
  obtain⟨b,o,rfl,_⟩:=h3 (by omega)
  refine⟨.slice (some ⟨b,o+m*sz,none⟩) (n-m) (cap-m),w,?_,Below.refl _ _,k.imp λw' ⟨A2,uc,e2,h3,h4,h5⟩=>?_⟩
  ·show(do pure (Next.value (<-Instr.sliceAt T (a.eval x) (some (a.eval y)) none none))).run P w=_
   rw[ex,ey]
   have hr:(Instr.sliceAt T (.slice (some ⟨b,o,none⟩) n cap) (some (.int .i64 m)) none none).run P w=.ok (.slice (some ⟨b,o+m*sz,none⟩) (n-m) (cap-m)) w:=by
    have e1:(Instr.sliceBound (.int .i64 m) n .sliceB).run P w=.ok m w:=by
     have:=run_sliceBound (P:=P) w .i64 (m:Int) n .sliceB (by omega) (by omega)
     simpa using this
    have hne:¬cap=m:=by omega
    simp only[Instr.sliceAt,Sem.run_bind,run_underlying hE.under,Result.andThen_ok,Instr.slice,Instr.sliceBounds,Sem.run_pure]
    simp only[Option.isSome_none,Bool.false_eq_true,if_false,e1,Result.andThen_ok,hE.size w,hne,Option.map_some,Addr.add_mid]
   rw[Sem.run_bind,hr]
   rfl
  ·have e2:a.eval x=.slice A2 n uc:=e2
   rw[ex]at e2
   injection e2 with e2 _ e4
   subst e2 e4
   obtain⟨b',o',hA,hf⟩:=h5 (by omega)
   injection hA with hA
   injection hA with hb ho
   subst hb ho
   refine⟨some ⟨b,o+m*sz,none⟩,cap-m,rfl,by omega,by omega,λ_=>⟨b,o+m*sz,rfl,λq hq=>?_⟩⟩
   obtain⟨cs,c1,c2,c3⟩:=hf (m+q) (by omega)
   refine⟨cs,c1,λj u hj=>?_,c3⟩
   have:=c2 j u hj
   rw[Nat.add_mul]at this
   rw[show o+m*sz+q*sz+j=o+(m*sz+q*sz)+j by omega]
   exact this
end
theorem gb {c:bD} {V:List Vr} {G:List aD} {a:Act} {w:World} {i T n:Nat} {ag:Bool} {q:Pred} (hI:Inv c V [] G none_ a w) (k:Nat) (hk:V[k]?=some (Vz i i T n ag q)) (hu:((V.eraseIdx k).all λy=>y.id != i)=true):Inv c (V.eraseIdx k) [] (⟨none,none,i,cH n ag q⟩::G) none_ a w:=by
 obtain⟨β,h⟩:=hI
 have hx:=List.mem_of_getElem? hk
 have hsub:∀y,y∈V.eraseIdx k->y∈V/\y.id≠i:=λy hy=>⟨List.mem_of_mem_eraseIdx hy,by
  have:=List.all_eq_true.1 hu y hy
  simpa using this⟩
 obtain⟨g,h1,h2,h3⟩:=(bk (by rfl)).1 (h.var _ hx rfl)
 have h1:∀k,β i k↔k=g:=h1
 have h2:sl a i=.pointer (some ⟨g,0,none⟩):=h2
 obtain⟨cs,k1,k2,k3,k4⟩:=h3.held
 have k4:aL (own c V none_ β) (λw=>q w (ae ag cs)) w:=k4
 have k2:cs.length=n:=k2
 have hnew:mine c g:=h3.new
 have A6:g<w.heap.size:=(Array.getElem?_eq_some_iff.1 k1).1
 have eo:∀k' o,own c (V.eraseIdx k) none_ β k' o->own c V none_ β k' o/\k'≠g:=by
  rintro k' o (hM|⟨y,hy,q1,q2,q3⟩)
  ·refine⟨.inl hM,λhb=>?_⟩
   have:=(h.old k' o hM).1
   rw[hb]at this
   exact hnew.elim (λh'=>absurd this.1 (Nat.not_lt.2 h')) (λh'=>this.2 h')
  ·obtain⟨hy,hid⟩:=hsub y hy
   exact⟨.inr ⟨y,hy,q1,q2,q3⟩,λhb=>h.apart y _ k' hy hx q1 rfl hid q2 ((h1 k').2 hb)⟩
 refine⟨β,h.size,h.defers,h.below,h.old,λy hy hl=>(h.var y (hsub y hy).1 hl).keep rfl rfl (λ_ _=>rfl) (Nat.le_refl _) (λF hF=>hF.sub λk o _ hh=>(eo k o hh).1) (λF hF=>hF.sub λk o _ hh=>⟨(eo k o hh.1).1,hh.2⟩) rfl,λy z g hy hz=>h.apart y z g (hsub y hy).1 (hsub z hz).1,(λp hp=>by cases hp),λe he ho hf'=>?_⟩
 rcases List.mem_cons.1 he with rfl|he
 ·intro w' hw'
  show cH n ag q w' (sl a i)
  rw[h2]
  have hb:w'.heap[g]?=some (.cells cs.toArray T (0,0)):=(hw'.block g A6 λo hh=>(eo g o hh).2 rfl).trans k1
  refine⟨g,0,cs,rfl,k2,λj v hj=>?_,k4 w' (hw'.mono λk o _ hh=>(eo k o hh).1)⟩
  rw[Nat.zero_add]
  simp only[World.cell?,hb]
  simpa using hj
 ·exact(h.fq e he ho hf').sub λk o _ hh=>(eo k o hh).1
end Wx
