import Derived.Test.YtadigiledciihaaGreatJRD28
import Derived.Laws.Slices
namespace Wx
open Go Go.RowKit Go.Proofs
end Wx

namespace Wx
open Go Go.RowKit Go.Proofs
variable {j k:Nat} {x y:Rat}
theorem dB.quo (h:dB j x) (g:dB k y):dB (j+k) (x/y):=by
 by_cases hy:y=0
 ·rw[hy,Rat.div_def,Rat.inv_zero,Rat.mul_zero]
  have h2:x.den<2^j:=h.2
  have h3:=x.den_pos
  have hj:j≠0:=by rintro rfl; simp at h2; omega
  refine⟨?_,?_⟩
  ·show(0:Rat).num.natAbs<2^(j+k)
   exact Nat.two_pow_pos _
  ·show(0:Rat).den<2^(j+k)
   show 1<2^(j+k)
   exact Nat.one_lt_two_pow (by omega)
 ·exact h.div g (λh=>hy ((jr y).1 (by omega)))
variable {w:World} {e:Ending} {w':World}
theorem vm {v:Value} (h:eC w v e w'):eJ (bK v) w e w':=⟨v,h.1,rfl,h.2⟩
theorem Fj {q:Rat} {n:Int} (h:qh w q n e w'):eJ (gC (bz q) (pI n)) w e w':=by
 obtain⟨v,rfl,h1,h2⟩:=h
 exact⟨_,rfl,⟨v,_,rfl,h1,rfl⟩,h2⟩
theorem LL (hx:dB j x) (hy:dB k y) (h:j+k+j+k+1<=100000000):∀w v1 v2,bz x w v1->bz y w v2->Calls Tryz.prog 46 #[v1,v2] w (eJ (bz (x+y)) w):=
 λw v1 v2 h1 h2=>Ge w v1 v2 x y h1 h2 hx hy h
theorem LO (hx:dB j x) (hy:dB k y) (h:j+k<=100000000):∀w v1 v2,bz x w v1->bz y w v2->Calls Tryz.prog 47 #[v1,v2] w (eJ (bz (x*y)) w):=
 λw v1 v2 h1 h2=>G3 w v1 v2 x y h1 h2 hx hy h
theorem JK (x:Rat):∀w v1,bz x w v1->Calls Tryz.prog 48 #[v1] w (eJ (pB (decide (x=0))) w):=λw v1 h1=>(zero_num w v1 x h1).mono λ_ _=>vm
theorem JJ (x:Rat):∀w v1,bz x w v1->Calls Tryz.prog 45 #[v1] w (eJ (pI (ou x)) w):=λw v1 h1=>(Fx w v1 x h1).mono λ_ _=>vm
theorem LN (n:Int) (h1:-9223372036854775808<=n) (h2:n<=9223372036854775807):∀w v1,pI n w v1->Calls Tryz.prog 29 #[v1] w (eJ (bz (n:Rat)) w):=λw v1 h=>by
 have h:v1=.int .i64 n:=h
 rw[h]
 exact GH w n h1 h2
theorem DF (hx:dB j x) (hy:dB k y) (h:j+k<=100000000) (h0:y≠0):∀w v1 v2,bz x w v1->bz y w v2->Calls Tryz.prog 88 #[v1,v2] w (eJ (gC (bz (x/y)) (pI 0)) w):=
 λw v1 v2 h1 h2=>(JT w v1 v2 x y h1 h2 hx hy h h0).mono λ_ _=>Fj
theorem yL (x:Rat) {y:Rat} (h0:y=0):∀w v1 v2,bz x w v1->bz y w v2->Calls Tryz.prog 88 #[v1,v2] w (eJ (gC (bz 0) (pI 3)) w):=
 λw v1 v2 h1 h2=>(div_zero w v1 v2 x y h1 h2 h0).mono λ_ _=>Fj
theorem LM (hx:dB j x) (hy:dB k y) (h:j+k<=100000000):∀w v1 v2,bz x w v1->bz y w v2->Calls Tryz.prog 88 #[v1,v2] w (eJ (gC (bz (x/y)) (pI (if y=0 then 3 else 0))) w):=by
 by_cases h0:y=0
 ·rw[if_pos h0,show x/y=0 by rw[h0,Rat.div_def,Rat.inv_zero,Rat.mul_zero]]; exact yL x h0
 ·rw[if_neg h0]; exact DF hx hy h h0
end Wx

namespace Wx
open Go Go.RowKit Go.Proofs
set_option linter.unusedVariables false
end Wx

namespace Wx
open Go Go.RowKit Go.Proofs
def lJ (x y:Rat):Int:=if x<y then -1 else if x=y then 0 else 1
theorem oN (q:Rat):q.num<0↔q<0:=by
 rw[Rat.lt_iff]
 simp
theorem Hx (q:Rat):ou q=lJ q 0:=by
 unfold ou lJ
 by_cases h:q<0
 ·rw[if_pos ((oN q).2 h),if_pos h]
 ·rw[if_neg (λh'=>h ((oN q).1 h')),if_neg h]
variable {x y:Rat}
theorem AF (h:x<y):lJ x y = -1:=if_pos h
theorem AD (h:x=y):lJ x y=0:=by unfold lJ; rw[if_neg (by grind),if_pos h]
theorem AE (h:y<x):lJ x y=1:=by unfold lJ; rw[if_neg (by grind),if_neg (by grind)]
theorem UB (x y:Rat):x<y\/x=y\/y<x:=by grind
theorem DO (x y:Rat):lJ (x-y) 0=lJ x y:=by
 rcases UB x y with h|h|h
 ·rw[AF h,AF (by grind)]
 ·rw[AD h,AD (by grind)]
 ·rw[AE h,AE (by grind)]
end Wx

namespace Wx
open Go Go.RowKit Go.Proofs
end Wx

namespace Wx
open Go Go.RowKit Go.Proofs
variable {j k:Nat} {x y:Rat}
theorem dB.LI (h:dB j x) (g:dB k y):dB (j+k+1) (x+y):=by
 have a:=h.1.mul g.2
 have b:=g.1.mul h.2
 have d:=h.2.mul g.2
 have hd:=Nat.mul_pos x.den_pos y.den_pos
 have ab:Bd (j+k+1) (x.num.natAbs*y.den+y.num.natAbs*x.den):=by
  unfold Bd at *
  rw[Nat.add_comm k j]at b
  rw[Nat.pow_succ]
  omega
 have d':Bd (j+k+1) (x.den*y.den):=d.mono (by omega)
 by_cases hs:decide (x.num<0)=decide (y.num<0)
 ·rw[add_same x y hs]; exact nB hd ab d'
 ·by_cases hge:y.num.natAbs*x.den<=x.num.natAbs*y.den
  ·rw[yI x y hs hge]; exact nB hd (ab.le (by omega)) d'
  ·rw[yJ x y hs (by omega)]; exact nB hd (ab.le (by omega)) d'
theorem dB.QZ (h:dB j x) (g:dB k y):dB (j+k+1) (x-y):=by rw[Rat.sub_eq_add_neg]; exact h.LI g.neg
theorem eJ.map {p q:Pred} {w:World} (h:∀w v,p w v->q w v):∀{e:Ending} {w':World},eJ p w e w'->eJ q w e w':=λ⟨v,e,hp,hb⟩=>⟨v,e,h _ _ hp,hb⟩
variable {x y:Rat} {j k:Nat}
theorem LG (h:j+k<=40000000):∀w v1 v2,pR j x w v1->pR k y w v2->Calls Tryz.prog 46 #[v1,v2] w (eJ (pR (j+k+1) (x+y)) w):=λw v1 v2 h1 h2=>(LL h1.1 h2.1 (by omega) w v1 v2 h1.2 h2.2).mono λ_ _=>eJ.map (tP (h1.1.LI h2.1))
theorem Im (h:j+k<=100000000):∀w v1 v2,pR j x w v1->pR k y w v2->Calls Tryz.prog 47 #[v1,v2] w (eJ (pR (j+k) (x*y)) w):=λw v1 v2 h1 h2=>(LO h1.1 h2.1 h w v1 v2 h1.2 h2.2).mono λ_ _=>eJ.map (tP (h1.1.mul h2.1))
theorem LH (h:j+k<=100000000):∀w v1 v2,pR j x w v1->pR k y w v2->Calls Tryz.prog 88 #[v1,v2] w (eJ (gC (pR (j+k) (x/y)) (pI (if y=0 then 3 else 0))) w):=λw v1 v2 h1 h2=>(LM h1.1 h2.1 h w v1 v2 h1.2 h2.2).mono λ_ _=>eJ.map λ_ _ ⟨a,b,e,p,q⟩=>⟨a,b,e,⟨h1.1.quo h2.1,p⟩,q⟩
theorem Jz (_:True):∀w v1,pR j x w v1->Calls Tryz.prog 48 #[v1] w (eJ (pB (decide (x=0))) w):=λw v1 h1=>JK x w v1 h1.2
theorem Jy (_:True):∀w v1,pR j x w v1->Calls Tryz.prog 45 #[v1] w (eJ (pI (ou x)) w):=λw v1 h1=>JJ x w v1 h1.2
theorem Av {z:Int} (h1:-9223372036854775808<=z) (h2:z<=9223372036854775807):dB 64 (z:Rat):=⟨by unfold Bd; rw[Rat.num_intCast]; omega,by unfold Bd; rw[Rat.den_intCast]; omega⟩
theorem Ar {n:Int} (h:-9223372036854775808<=n/\n<=9223372036854775807):∀w v1,pI n w v1->Calls Tryz.prog 29 #[v1] w (eJ (pR 64 (n:Rat)) w):=λw v1 h1=>(LN n h.1 h.2 w v1 h1).mono λ_ _=>eJ.map (tP (Av h.1 h.2))
theorem yE {J:Nat} (hb:dB J (x+y)) (h:j+k<=40000000):∀w v1 v2,pR j x w v1->pR k y w v2->Calls Tryz.prog 46 #[v1,v2] w (eJ (pR J (x+y)) w):=λw v1 v2 h1 h2=>(LG h w v1 v2 h1 h2).mono λ_ _=>eJ.map λ_ _ q=>⟨hb,q.2⟩
end Wx

namespace Wx
open Go Go.RowKit
def CP (f:FuncId) (sz:Nat) (agg:Bool) (q:Pred):Pred:=λw v=>∃u,v=.func (.func f) #[] #[u]/\dK sz agg q w u
section
variable {P:Program} {ops:Array Oper} {ms:List Nat} {c:cT} {V:List Vr} {A:List Al} {G:List aS} {i:Nat} {L:Nat->Bool} {β:Nat->Nat->Prop} {a:Act} {w:World} {o:Oper}{d:Nat} {x y z:Operand} {ty:TypeId} {pos:String} {aJ:Array Edge}
theorem CL {f:FuncId} {fx:Operand} {ts:Array TypeId} {sz:Nat} {agg:Bool} {p q p1:Pred} (hf:aK P f) (hx:Has ms G i fx (CP f sz agg q)) (h1:Has ms G i x p1) (hp:Post G i p)
  (hc:∀(M:Nat->Nat->Prop) (w:World) (v1 v2:Value),dD M w->aN M (λw=>p1 w v1) w->aN M (λw=>dK sz agg q w v2) w->Calls P f #[v1,v2] w (bX M p w)):OpOk P ops ms c V A G i ⟨some d,.call ⟨.value fx,#[x],ts⟩,ty,pos,aJ,none⟩:=by
 refine jI (λL β a w hI hd hwf=>?_) rfl
 have hb:=hx.spec hI hd
 obtain⟨u,IL,_⟩:=hb.out
 have hu:aN (own c V L β) (λw=>dK sz agg q w u) w:=λw' he=>by
  obtain⟨u',e,h⟩:=hb w' he
  rw[IL]at e
  injection e with _ _ e
  have:u=u':=by simpa using e
  rw[this]
  exact h
 have hr:(execOp a.eval ⟨some d,.call ⟨.value fx,#[x],ts⟩,ty,pos,aJ,none⟩).run P w=.ok (.enter f #[a.eval x,u]) w:=by
  have:=hf #[a.eval x,u] w
  simp only[execOp,resolve,IL,Deferred.ofValue,pure_bind,invoke]
  rw[show(#[x]:Array Operand).map a.eval=#[a.eval x] by simp]
  first|exact this|simpa using this
 unfold Does
 rw[hr]
 refine(hc _ w _ _ (bk hI) (h1.spec hI hd) hu).mono ?_
 rintro e w' ⟨v,rfl,hv,hb⟩
 exact⟨v,rfl,β,hI.value hwf (qZ hwf rfl) rfl hb (λd q _ hq Dq _=>by have:=hwf.aa q hq Dq; cases this) λe he ht=>hv.imp λw=>hp.spec hwf he ht w v⟩
end
end Wx

namespace Wx
open Go Go.RowKit
section
variable {P:Program} {ops:Array Oper} {ms:List Nat} {c:cT} {V:List Vr} {A:List Al} {G:List aS} {i:Nat}{d:Nat} {x y z:Operand} {ty:TypeId} {pos:String} {aJ:Array Edge}
end
section
variable {c:cT} {V:List Vr} {A:List Al} {G:List aS} {a:Act} {w:World}
end
section
variable {P:Program} {ops:Array Oper} {ms:List Nat} {c:cT} {V:List Vr} {A:List Al} {G:List aS} {i:Nat}{d:Nat} {x y z:Operand} {ty:TypeId} {pos:String} {aJ:Array Edge}
end
section
variable {F:Rat->Pred} {j k:Nat} {l:List Rat}
end
section
variable {P:Program} {ops:Array Oper} {ms:List Nat} {c:cT} {V:List Vr} {A:List Al} {G:List aS} {i:Nat}{d:Nat} {x y z:Operand} {ty:TypeId} {pos:String} {aJ:Array Edge}
end
section
variable {P:Program} {ops:Array Oper} {ms:List Nat} {c:cT} {V:List Vr} {A:List Al} {G:List aS} {i:Nat}{d:Nat} {ty:TypeId} {pos:String} {aJ:Array Edge}{f:FuncId} {fx x:Operand} {ts:Array TypeId} {p p1 q1:Pred} {φ:Prop}
theorem Rs (ic:φ->∀M w v1,dD M w->aN M (λw=>p1 w v1) w->Calls P f #[v1] w (bX M p w)) (hx:Has ms G i fx (bK (.func (.func f) #[] #[])):=by exact hs) (h1:Has ms G i x q1:=by exact hs) (c1:∀w v,q1 w v->p1 w v:=by exact sr) (hp:Post G i p:=by exact pt rfl) (hφ:φ:=by first|omega|trivial) (hf:aK P f:=by exactλ_ _=>by kernel_rfl):
  OpOk P ops ms c V A G i ⟨some d,.call ⟨.value fx,#[x],ts⟩,ty,pos,aJ,none⟩:=
 xH hf hx hp λ_ _ a w hI hd=>(by
  rw[show(#[x]:Array Operand).map a.eval=#[a.eval x] by simp]
  exact ic hφ _ w _ (bk hI) ((h1.imp c1).spec hI hd))
theorem O1 {ψ:Prop} (hψ:ψ) (ic:φ->∀M w v1,dD M w->aN M (λw=>p1 w v1) w->Calls P f #[v1] w (bX M p w)) (hx:Has ms G i fx (bK (.func (.func f) #[] #[])):=by exact hg) (h1:Has ms G i x q1:=by exact hg) (c1:∀w v,q1 w v->p1 w v:=by exact sr) (hp:Post G i p:=by exact pg (by assumption) rfl) (hφ:φ:=by first|omega|trivial) (hf:aK P f:=by exactλ_ _=>by kernel_rfl):
  OpOk P ops ms c V A G i ⟨some d,.call ⟨.value fx,#[x],ts⟩,ty,pos,aJ,none⟩:=(λ_:ψ=>Rs ic hx h1 c1 hp hφ hf) hψ
theorem QI {T:TypeId} {v:Vr} (J n:Nat) (hJ:1<=J:=by omega) (hv:De i V=some v:=by exact rfl) (hT:v.T=T:=by exact rfl) (cq:v.kd=.ptr:=by exact rfl) (hc:v.c0=pv (pV bz J (List.replicate n 0)):=by exact rfl) (Cb:v.agg=true:=by exact rfl)
  (hz:∀w,(zeroValue T).run P w=.ok (.agg ((List.replicate n Zl.r).flatMap Zl.cs).toArray) w:=by exactλ_=>by kernel_rfl) (hl:((List.replicate n Zl.r).flatMap Zl.cs).length=v.n:=by kernel_rfl) (hst:((v.st.all λq=>(ms.getD q.1 0).testBit i)&&V.all λy=>y.dead != some i)=true:=by kernel_rfl) (hno:(G.all λe=>e.tag != some i)=true:=by kernel_rfl) (fo:(A.all λp=>p.var != v.id||p.tag.any λj=>(ms.getD j 0).testBit i)=true:=by kernel_rfl):
  OpOk P ops ms c V A G i ⟨some d,.alloc T,ty,pos,aJ,none⟩:=by
 obtain⟨⟨k,hk⟩,hb⟩:=jE hv
 refine iR k hk hb hst hno fo hT cq hz rfl hl (Af _) hc λw=>?_
 rw[Cb]
 have h:=Ae (List.replicate n Zl.r) w
 rw[List.map_replicate]at h
 refine Br hJ _ _ ?_
 show pS ((List.replicate n (0:Rat)).map (wN bz 1)) w _
 rw[List.map_replicate]
 exact h
end
end Wx

namespace Wx
open Go Go.RowKit
end Wx

namespace Wx
open Go Go.RowKit
section
variable {P:Program} {Q:Exit->Act->World->Prop} {c:cT} {V:List Vr} {A:List Al} {G:List aS} {a:Act} {w:World} {o:Oper}{d:Nat} {x y z u:Operand} {ty:TypeId} {pos:String} {aJ:Array Edge}
theorem cM.mono {ops:Array Oper} {K K':Act->World->Prop} (h:cM P ops o a w K) (hK:∀a w,K a w->K' a w):cM P ops o a w K':=by
 unfold cM at *
 split at h
 ·rename_i hw
  rw[if_pos hw]
  exact h.mono hK
 ·rename_i hw
  rw[if_neg hw]
  exact hK _ _ h
end
end Wx
