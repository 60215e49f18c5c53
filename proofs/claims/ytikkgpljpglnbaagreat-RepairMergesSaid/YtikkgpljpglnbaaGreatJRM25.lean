import Derived.Test.YtikkgpljpglnbaaGreatJRM24
import Derived.Laws.Slices
namespace Wx
open Go Go.RowKit Go.Proofs
end Wx

namespace Wx
open Go Go.RowKit Go.Proofs
variable {j k:Nat} {x y:Rat}
theorem fo.quo (h:fo j x) (g:fo k y):fo (j+k) (x/y):=by
 by_cases hy:y=0
 ·rw[hy,Rat.div_def,Rat.inv_zero,Rat.mul_zero]
  have h2:x.den<2^j:=h.2
  have h3:=x.den_pos
  have hj:j≠0:=by rintro rfl; simp at h2; omega
  refine⟨?_,?_⟩
  ·show(0:Rat).num.natAbs<2^(j+k)
   exact Nat.two_pow_pos _
  ·show(0:Rat).den<2^(j+k)
   show 1<2^(j+k)
   exact Nat.one_lt_two_pow (by omega)
 ·exact h.div g (λh=>hy ((mC y).1 (by omega)))
variable {w:World} {e:Ending} {w':World}
theorem yZ {v:Value} (h:fW w v e w'):iw (bg v) w e w':=⟨v,h.1,rfl,h.2⟩
theorem Ee {q:Rat} {n:Int} (h:pW w q n e w'):iw (fl (bq q) (pI n)) w e w':=by
 obtain⟨v,rfl,h1,h2⟩:=h
 exact⟨_,rfl,⟨v,_,rfl,h1,rfl⟩,h2⟩
theorem Lj (hx:fo j x) (hy:fo k y) (h:j+k+j+k+1<=100000000):∀w v1 v2,bq x w v1->bq y w v2->Calls Tryz.prog 27 #[v1,v2] w (iw (bq (x+y)) w):=
 λw v1 v2 h1 h2=>Fk w v1 v2 x y h1 h2 hx hy h
theorem Lm (hx:fo j x) (hy:fo k y) (h:j+k<=100000000):∀w v1 v2,bq x w v1->bq y w v2->Calls Tryz.prog 28 #[v1,v2] w (iw (bq (x*y)) w):=
 λw v1 v2 h1 h2=>Gk w v1 v2 x y h1 h2 hx hy h
theorem Jh (x:Rat):∀w v1,bq x w v1->Calls Tryz.prog 29 #[v1] w (iw (pB (decide (x=0))) w):=λw v1 h1=>(zero_num w v1 x h1).mono λ_ _=>yZ
theorem Jg (x:Rat):∀w v1,bq x w v1->Calls Tryz.prog 26 #[v1] w (iw (pI (B9 x)) w):=λw v1 h1=>(Er w v1 x h1).mono λ_ _=>yZ
theorem Ll (n:Int) (h1:-9223372036854775808<=n) (h2:n<=9223372036854775807):∀w v1,pI n w v1->Calls Tryz.prog 16 #[v1] w (iw (bq (n:Rat)) w):=λw v1 h=>by
 have h:v1=.int .i64 n:=h
 rw[h]
 exact FZ w n h1 h2
theorem CH (hx:fo j x) (hy:fo k y) (h:j+k<=100000000) (h0:y≠0):∀w v1 v2,bq x w v1->bq y w v2->Calls Tryz.prog 57 #[v1,v2] w (iw (fl (bq (x/y)) (pI 0)) w):=
 λw v1 v2 h1 h2=>(Jl w v1 v2 x y h1 h2 hx hy h h0).mono λ_ _=>Ee
theorem xP (x:Rat) {y:Rat} (h0:y=0):∀w v1 v2,bq x w v1->bq y w v2->Calls Tryz.prog 57 #[v1,v2] w (iw (fl (bq 0) (pI 3)) w):=
 λw v1 v2 h1 h2=>(div_zero w v1 v2 x y h1 h2 h0).mono λ_ _=>Ee
theorem Lk (hx:fo j x) (hy:fo k y) (h:j+k<=100000000):∀w v1 v2,bq x w v1->bq y w v2->Calls Tryz.prog 57 #[v1,v2] w (iw (fl (bq (x/y)) (pI (if y=0 then 3 else 0))) w):=by
 by_cases h0:y=0
 ·rw[if_pos h0,show x/y=0 by rw[h0,Rat.div_def,Rat.inv_zero,Rat.mul_zero]]; exact xP x h0
 ·rw[if_neg h0]; exact CH hx hy h h0
end Wx

namespace Wx
open Go Go.RowKit Go.Proofs
set_option linter.unusedVariables false
end Wx

namespace Wx
open Go Go.RowKit Go.Proofs
end Wx

namespace Wx
open Go Go.RowKit Go.Proofs
end Wx

namespace Wx
open Go Go.RowKit Go.Proofs
theorem fo.Oh {j k:Nat} {x y:Rat} (h:fo j x) (g:fo k y):fo (j+k+1) (x+y):=by
 have a:=h.1.mul g.2
 have b:=g.1.mul h.2
 have d:=h.2.mul g.2
 have hd:=Nat.mul_pos x.den_pos y.den_pos
 have ab:Bd (j+k+1) (x.num.natAbs*y.den+y.num.natAbs*x.den):=by
  unfold Bd at *
  rw[Nat.add_comm k j]at b
  rw[Nat.pow_succ]
  omega
 have d':Bd (j+k+1) (x.den*y.den):=d.mono (by omega)
 by_cases hs:decide (x.num<0)=decide (y.num<0)
 ·rw[add_same x y hs]; exact mN hd ab d'
 ·by_cases hge:y.num.natAbs*x.den<=x.num.natAbs*y.den
  ·rw[CC x y hs hge]; exact mN hd (ab.le (by omega)) d'
  ·rw[CD x y hs (by omega)]; exact mN hd (ab.le (by omega)) d'
theorem iw.map {p q:Pred} {w:World} (h:∀w v,p w v->q w v):∀{e:Ending} {w':World},iw p w e w'->iw q w e w':=λ⟨v,e,hp,hb⟩=>⟨v,e,h _ _ hp,hb⟩
variable {x y:Rat} {j k:Nat}
theorem Ld (h:j+k<=40000000):∀w v1 v2,pR j x w v1->pR k y w v2->Calls Tryz.prog 27 #[v1,v2] w (iw (pR (j+k+1) (x+y)) w):=λw v1 v2 h1 h2=>(Lj h1.1 h2.1 (by omega) w v1 v2 h1.2 h2.2).mono λ_ _=>iw.map (D2 (h1.1.Oh h2.1))
theorem G8 (h:j+k<=100000000):∀w v1 v2,pR j x w v1->pR k y w v2->Calls Tryz.prog 28 #[v1,v2] w (iw (pR (j+k) (x*y)) w):=λw v1 v2 h1 h2=>(Lm h1.1 h2.1 h w v1 v2 h1.2 h2.2).mono λ_ _=>iw.map (D2 (h1.1.mul h2.1))
theorem Le (h:j+k<=100000000):∀w v1 v2,pR j x w v1->pR k y w v2->Calls Tryz.prog 57 #[v1,v2] w (iw (fl (pR (j+k) (x/y)) (pI (if y=0 then 3 else 0))) w):=λw v1 v2 h1 h2=>(Lk h1.1 h2.1 h w v1 v2 h1.2 h2.2).mono λ_ _=>iw.map λ_ _ ⟨a,b,e,p,q⟩=>⟨a,b,e,⟨h1.1.quo h2.1,p⟩,q⟩
theorem I8 (_:True):∀w v1,pR j x w v1->Calls Tryz.prog 29 #[v1] w (iw (pB (decide (x=0))) w):=λw v1 h1=>Jh x w v1 h1.2
theorem I7 (_:True):∀w v1,pR j x w v1->Calls Tryz.prog 26 #[v1] w (iw (pI (B9 x)) w):=λw v1 h1=>Jg x w v1 h1.2
theorem Fm {z:Int} (h1:-9223372036854775808<=z) (h2:z<=9223372036854775807):fo 64 (z:Rat):=⟨by unfold Bd; rw[Rat.num_intCast]; omega,by unfold Bd; rw[Rat.den_intCast]; omega⟩
theorem zF {n:Int} (h:-9223372036854775808<=n/\n<=9223372036854775807):∀w v1,pI n w v1->Calls Tryz.prog 16 #[v1] w (iw (pR 64 (n:Rat)) w):=λw v1 h1=>(Ll n h.1 h.2 w v1 h1).mono λ_ _=>iw.map (D2 (Fm h.1 h.2))
theorem xK {J:Nat} (hb:fo J (x+y)) (h:j+k<=40000000):∀w v1 v2,pR j x w v1->pR k y w v2->Calls Tryz.prog 27 #[v1,v2] w (iw (pR J (x+y)) w):=λw v1 v2 h1 h2=>(Ld h w v1 v2 h1 h2).mono λ_ _=>iw.map λ_ _ q=>⟨hb,q.2⟩
end Wx

namespace Wx
open Go Go.RowKit
def BW (f:FuncId) (sz:Nat) (agg:Bool) (q:Pred):Pred:=λw v=>∃u,v=.func (.func f) #[] #[u]/\cZ sz agg q w u
section
variable {P:Program} {ops:Array Oper} {ms:List Nat} {c:cF} {V:List Vr} {A:List Al} {G:List aQ} {i:Nat} {L:Nat->Bool} {β:Nat->Nat->Prop} {a:Act} {w:World} {o:Oper}{d:Nat} {x y z:Operand} {ty:TypeId} {pos:String} {aI:Array Edge}
theorem BR {f:FuncId} {fx:Operand} {ts:Array TypeId} {sz:Nat} {agg:Bool} {p q p1:Pred} (hf:aJ P f) (hx:Has ms G i fx (BW f sz agg q)) (h1:Has ms G i x p1) (hp:Post G i p)
  (hc:∀(M:Nat->Nat->Prop) (w:World) (v1 v2:Value),cQ M w->aL M (λw=>p1 w v1) w->aL M (λw=>cZ sz agg q w v2) w->Calls P f #[v1,v2] w (bV M p w)):OpOk P ops ms c V A G i ⟨some d,.call ⟨.value fx,#[x],ts⟩,ty,pos,aI,none⟩:=by
 refine gK (λL β a w hI hd hwf=>?_) rfl
 have hb:=hx.spec hI hd
 obtain⟨u,Hy,_⟩:=hb.out
 have hu:aL (own c V L β) (λw=>cZ sz agg q w u) w:=λw' he=>by
  obtain⟨u',e,h⟩:=hb w' he
  rw[Hy]at e
  injection e with _ _ e
  have:u=u':=by simpa using e
  rw[this]
  exact h
 have hr:(execOp a.eval ⟨some d,.call ⟨.value fx,#[x],ts⟩,ty,pos,aI,none⟩).run P w=.ok (.enter f #[a.eval x,u]) w:=by
  have:=hf #[a.eval x,u] w
  simp only[execOp,resolve,Hy,Deferred.ofValue,pure_bind,invoke]
  rw[show(#[x]:Array Operand).map a.eval=#[a.eval x] by simp]
  first|exact this|simpa using this
 unfold Does
 rw[hr]
 refine(hc _ w _ _ (aS hI) (h1.spec hI hd) hu).mono ?_
 rintro e w' ⟨v,rfl,hv,hb⟩
 exact⟨v,rfl,β,hI.value hwf (ou hwf rfl) rfl hb (λd q _ hq Cr _=>by have:=hwf.aa q hq Cr; cases this) λe he ht=>hv.imp λw=>hp.spec hwf he ht w v⟩
end
end Wx

namespace Wx
open Go Go.RowKit
section
variable {P:Program} {ops:Array Oper} {ms:List Nat} {c:cF} {V:List Vr} {A:List Al} {G:List aQ} {i:Nat}{d:Nat} {x y z:Operand} {ty:TypeId} {pos:String} {aI:Array Edge}
end
section
variable {c:cF} {V:List Vr} {A:List Al} {G:List aQ} {a:Act} {w:World}
end
section
variable {P:Program} {ops:Array Oper} {ms:List Nat} {c:cF} {V:List Vr} {A:List Al} {G:List aQ} {i:Nat}{d:Nat} {x y z:Operand} {ty:TypeId} {pos:String} {aI:Array Edge}
end
section
variable {F:Rat->Pred} {j k:Nat} {l:List Rat}
end
section
variable {P:Program} {ops:Array Oper} {ms:List Nat} {c:cF} {V:List Vr} {A:List Al} {G:List aQ} {i:Nat}{d:Nat} {x y z:Operand} {ty:TypeId} {pos:String} {aI:Array Edge}
end
section
variable {P:Program} {ops:Array Oper} {ms:List Nat} {c:cF} {V:List Vr} {A:List Al} {G:List aQ} {i:Nat}{d:Nat} {ty:TypeId} {pos:String} {aI:Array Edge}{f:FuncId} {fx x:Operand} {ts:Array TypeId} {p p1 q1:Pred} {φ:Prop}
theorem Q5 (gB:φ->∀M w v1,cQ M w->aL M (λw=>p1 w v1) w->Calls P f #[v1] w (bV M p w)) (hx:Has ms G i fx (bg (.func (.func f) #[] #[])):=by exact hs) (h1:Has ms G i x q1:=by exact hs) (c1:∀w v,q1 w v->p1 w v:=by exact qj) (hp:Post G i p:=by exact pt rfl) (hφ:φ:=by first|omega|trivial) (hf:aJ P f:=by exactλ_ _=>by kernel_rfl):
  OpOk P ops ms c V A G i ⟨some d,.call ⟨.value fx,#[x],ts⟩,ty,pos,aI,none⟩:=
 wL hf hx hp λ_ _ a w hI hd=>(by
  rw[show(#[x]:Array Operand).map a.eval=#[a.eval x] by simp]
  exact gB hφ _ w _ (aS hI) ((h1.imp c1).spec hI hd))
theorem OE {ψ:Prop} (hψ:ψ) (gB:φ->∀M w v1,cQ M w->aL M (λw=>p1 w v1) w->Calls P f #[v1] w (bV M p w)) (hx:Has ms G i fx (bg (.func (.func f) #[] #[])):=by exact hg) (h1:Has ms G i x q1:=by exact hg) (c1:∀w v,q1 w v->p1 w v:=by exact qj) (hp:Post G i p:=by exact pg (by assumption) rfl) (hφ:φ:=by first|omega|trivial) (hf:aJ P f:=by exactλ_ _=>by kernel_rfl):
  OpOk P ops ms c V A G i ⟨some d,.call ⟨.value fx,#[x],ts⟩,ty,pos,aI,none⟩:=(λ_:ψ=>Q5 gB hx h1 c1 hp hφ hf) hψ
theorem Qc {T:TypeId} {v:Vr} (J n:Nat) (hJ:1<=J:=by omega) (hv:AY i V=some v:=by exact rfl) (hT:v.T=T:=by exact rfl) (bD:v.kd=.ptr:=by exact rfl) (hc:v.c0=pv (pV bq J (List.replicate n 0)):=by exact rfl) (Br:v.agg=true:=by exact rfl)
  (hz:∀w,(zeroValue T).run P w=.ok (.agg ((List.replicate n Zl.r).flatMap Zl.cs).toArray) w:=by exactλ_=>by kernel_rfl) (hl:((List.replicate n Zl.r).flatMap Zl.cs).length=v.n:=by kernel_rfl) (hst:((v.st.all λq=>(ms.getD q.1 0).testBit i)&&V.all λy=>y.dead != some i)=true:=by kernel_rfl) (hno:(G.all λe=>e.tag != some i)=true:=by kernel_rfl) (eB:(A.all λp=>p.var != v.id||p.tag.any λj=>(ms.getD j 0).testBit i)=true:=by kernel_rfl):
  OpOk P ops ms c V A G i ⟨some d,.alloc T,ty,pos,aI,none⟩:=by
 obtain⟨⟨k,hk⟩,hb⟩:=gP hv
 refine jT k hk hb hst hno eB hT bD hz rfl hl (zw _) hc λw=>?_
 rw[Br]
 have h:=zu (List.replicate n Zl.r) w
 rw[List.map_replicate]at h
 refine AH hJ _ _ ?_
 show pS ((List.replicate n (0:Rat)).map (vR bq 1)) w _
 rw[List.map_replicate]
 exact h
end
end Wx

namespace Wx
open Go Go.RowKit
end Wx

namespace Wx
open Go Go.RowKit
section
variable {P:Program} {Q:Exit->Act->World->Prop} {c:cF} {V:List Vr} {A:List Al} {G:List aQ} {a:Act} {w:World} {o:Oper}{d:Nat} {x y z u:Operand} {ty:TypeId} {pos:String} {aI:Array Edge}
theorem bR.mono {ops:Array Oper} {K K':Act->World->Prop} (h:bR P ops o a w K) (hK:∀a w,K a w->K' a w):bR P ops o a w K':=by
 unfold bR at *
 split at h
 ·rename_i hw
  rw[if_pos hw]
  exact h.mono hK
 ·rename_i hw
  rw[if_neg hw]
  exact hK _ _ h
end
end Wx
