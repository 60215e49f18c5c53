import Derived.Test.YtadigiledciihaaGreatCRBSame
import Derived.Laws.Slices
namespace Wx
open Go Go.RowKit Go.Proofs
end Wx

namespace Wx
open Go Go.RowKit Go.Proofs
theorem qV:cN 1 (0:Rat):=⟨by show(0:Rat).num.natAbs<2^1; decide,by show(0:Rat).den<2^1; decide⟩
variable {j k:Nat} {x y:Rat}
theorem cN.quo (h:cN j x) (g:cN k y):cN (j+k) (x/y):=by
 by_cases hy:y=0
 ·rw[hy,Rat.div_def,Rat.inv_zero,Rat.mul_zero]
  have h2:x.den<2^j:=h.2
  have h3:=x.den_pos
  have hj:j≠0:=by rintro rfl; simp at h2; omega
  refine⟨?_,?_⟩
  ·show(0:Rat).num.natAbs<2^(j+k)
   exact Nat.two_pow_pos _
  ·show(0:Rat).den<2^(j+k)
   show 1<2^(j+k)
   exact Nat.one_lt_two_pow (by omega)
 ·exact h.div g (λh=>hy ((gO y).1 (by omega)))
variable {w:World} {e:Ending} {w':World}
theorem nC {v:Value} (h:cP w v e w'):dK (bR v) w e w':=⟨v,h.1,rfl,h.2⟩
theorem GM {q:Rat} {n:Int} (h:nK w q n e w'):dK (ew (bg q) (pI n)) w e w':=by
 obtain⟨v,rfl,h1,h2⟩:=h
 exact⟨_,rfl,⟨v,_,rfl,h1,rfl⟩,h2⟩
theorem NK (hx:cN j x) (hy:cN k y) (h:j+k+j+k+1<=100000000):∀w v1 v2,bg x w v1->bg y w v2->Calls Tryz.prog 46 #[v1,v2] w (dK (bg (x+y)) w):=
 λw v1 v2 h1 h2=>Ii w v1 v2 x y h1 h2 hx hy h
theorem NN (hx:cN j x) (hy:cN k y) (h:j+k<=100000000):∀w v1 v2,bg x w v1->bg y w v2->Calls Tryz.prog 47 #[v1,v2] w (dK (bg (x*y)) w):=
 λw v1 v2 h1 h2=>Jb w v1 v2 x y h1 h2 hx hy h
theorem Lu (x:Rat):∀w v1,bg x w v1->Calls Tryz.prog 48 #[v1] w (dK (pB (decide (x=0))) w):=λw v1 h1=>(zero_num w v1 x h1).mono λ_ _=>nC
theorem Ls (x y:Rat):∀w v1 v2,bg x w v1->bg y w v2->Calls Tryz.prog 24 #[v1,v2] w (dK (pB (decide (x=y))) w):=λw v1 v2 h1 h2=>(GV w v1 v2 x y h1 h2).mono λ_ _=>nC
theorem Lt (x:Rat):∀w v1,bg x w v1->Calls Tryz.prog 45 #[v1] w (dK (pI (iI x)) w):=λw v1 h1=>(G3 w v1 x h1).mono λ_ _=>nC
theorem NM (n:Int) (h1:-9223372036854775808<=n) (h2:n<=9223372036854775807):∀w v1,pI n w v1->Calls Tryz.prog 29 #[v1] w (dK (bg (n:Rat)) w):=λw v1 h=>by
 have h:v1=.int .i64 n:=h
 rw[h]
 exact Cp w n h1 h2
theorem EX (hx:cN j x) (hy:cN k y) (h:j+k<=100000000) (h0:y≠0):∀w v1 v2,bg x w v1->bg y w v2->Calls Tryz.prog 88 #[v1,v2] w (dK (ew (bg (x/y)) (pI 0)) w):=
 λw v1 v2 h1 h2=>(LG w v1 v2 x y h1 h2 hx hy h h0).mono λ_ _=>GM
theorem Af (x:Rat) {y:Rat} (h0:y=0):∀w v1 v2,bg x w v1->bg y w v2->Calls Tryz.prog 88 #[v1,v2] w (dK (ew (bg 0) (pI 3)) w):=
 λw v1 v2 h1 h2=>(div_zero w v1 v2 x y h1 h2 h0).mono λ_ _=>GM
theorem NL (hx:cN j x) (hy:cN k y) (h:j+k<=100000000):∀w v1 v2,bg x w v1->bg y w v2->Calls Tryz.prog 88 #[v1,v2] w (dK (ew (bg (x/y)) (pI (if y=0 then 3 else 0))) w):=by
 by_cases h0:y=0
 ·rw[if_pos h0,show x/y=0 by rw[h0,Rat.div_def,Rat.inv_zero,Rat.mul_zero]]; exact Af x h0
 ·rw[if_neg h0]; exact EX hx hy h h0
end Wx

namespace Wx
open Go Go.RowKit Go.Proofs
set_option linter.unusedVariables false
end Wx

namespace Wx
open Go Go.RowKit Go.Proofs
def Lx (x y:Rat):Int:=if x<y then -1 else if x=y then 0 else 1
theorem qx (q:Rat):q.num<0↔q<0:=by
 rw[Rat.lt_iff]
 simp
theorem JJ (q:Rat):iI q=Lx q 0:=by
 unfold iI Lx
 by_cases h:q<0
 ·rw[if_pos ((qx q).2 h),if_pos h]
 ·rw[if_neg (λh'=>h ((qx q).1 h')),if_neg h]
end Wx

namespace Wx
open Go Go.RowKit Go.Proofs
end Wx

namespace Wx
open Go Go.RowKit Go.Proofs
theorem cN.EP {j k:Nat} {x y:Rat} (h:cN j x) (g:cN k y):cN (j+k+1) (x+y):=by
 have a:=h.1.mul g.2
 have b:=g.1.mul h.2
 have d:=h.2.mul g.2
 have hd:=Nat.mul_pos x.den_pos y.den_pos
 have ab:Bd (j+k+1) (x.num.natAbs*y.den+y.num.natAbs*x.den):=by
  unfold Bd at *
  rw[Nat.add_comm k j]at b
  rw[Nat.pow_succ]
  omega
 have d':Bd (j+k+1) (x.den*y.den):=d.mono (by omega)
 by_cases hs:decide (x.num<0)=decide (y.num<0)
 ·rw[add_same x y hs]; exact mE hd ab d'
 ·by_cases hge:y.num.natAbs*x.den<=x.num.natAbs*y.den
  ·rw[Ac x y hs hge]; exact mE hd (ab.le (by omega)) d'
  ·rw[Ad x y hs (by omega)]; exact mE hd (ab.le (by omega)) d'
theorem dK.map {p q:Pred} {w:World} (h:∀w v,p w v->q w v):∀{e:Ending} {w':World},dK p w e w'->dK q w e w':=λ⟨v,e,hp,hb⟩=>⟨v,e,h _ _ hp,hb⟩
variable {x y:Rat} {j k:Nat}
theorem NG (h:j+k<=40000000):∀w v1 v2,pR j x w v1->pR k y w v2->Calls Tryz.prog 46 #[v1,v2] w (dK (pR (j+k+1) (x+y)) w):=λw v1 v2 h1 h2=>(NK h1.1 h2.1 (by omega) w v1 v2 h1.2 h2.2).mono λ_ _=>dK.map (qA (h1.1.EP h2.1))
theorem BR (h:j+k<=100000000):∀w v1 v2,pR j x w v1->pR k y w v2->Calls Tryz.prog 47 #[v1,v2] w (dK (pR (j+k) (x*y)) w):=λw v1 v2 h1 h2=>(NN h1.1 h2.1 h w v1 v2 h1.2 h2.2).mono λ_ _=>dK.map (qA (h1.1.mul h2.1))
theorem NH (h:j+k<=100000000):∀w v1 v2,pR j x w v1->pR k y w v2->Calls Tryz.prog 88 #[v1,v2] w (dK (ew (pR (j+k) (x/y)) (pI (if y=0 then 3 else 0))) w):=λw v1 v2 h1 h2=>(NL h1.1 h2.1 h w v1 v2 h1.2 h2.2).mono λ_ _=>dK.map λ_ _ ⟨a,b,e,p,q⟩=>⟨a,b,e,⟨h1.1.quo h2.1,p⟩,q⟩
theorem EN (_:True):∀w v1,pR j x w v1->Calls Tryz.prog 48 #[v1] w (dK (pB (decide (x=0))) w):=λw v1 h1=>Lu x w v1 h1.2
theorem zY (_:True):∀w v1 v2,pR j x w v1->pR k y w v2->Calls Tryz.prog 24 #[v1,v2] w (dK (pB (decide (x=y))) w):=λw v1 v2 h1 h2=>Ls x y w v1 v2 h1.2 h2.2
theorem EM (_:True):∀w v1,pR j x w v1->Calls Tryz.prog 45 #[v1] w (dK (pI (iI x)) w):=λw v1 h1=>Lt x w v1 h1.2
theorem BV {z:Int} (h1:-9223372036854775808<=z) (h2:z<=9223372036854775807):cN 64 (z:Rat):=⟨by unfold Bd; rw[Rat.num_intCast]; omega,by unfold Bd; rw[Rat.den_intCast]; omega⟩
theorem BQ {n:Int} (h:-9223372036854775808<=n/\n<=9223372036854775807):∀w v1,pI n w v1->Calls Tryz.prog 29 #[v1] w (dK (pR 64 (n:Rat)) w):=λw v1 h1=>(NM n h.1 h.2 w v1 h1).mono λ_ _=>dK.map (qA (BV h.1 h.2))
theorem oZ {J:Nat} (hb:cN J (x+y)) (h:j+k<=40000000):∀w v1 v2,pR j x w v1->pR k y w v2->Calls Tryz.prog 46 #[v1,v2] w (dK (pR J (x+y)) w):=λw v1 v2 h1 h2=>(NG h w v1 v2 h1 h2).mono λ_ _=>dK.map λ_ _ q=>⟨hb,q.2⟩
end Wx

namespace Wx
open Go Go.RowKit
def D5 (f:FuncId) (sz:Nat) (agg:Bool) (q:Pred):Pred:=λw v=>∃u,v=.func (.func f) #[] #[u]/\dP sz agg q w u
section
variable {P:Program} {ops:Array Oper} {ms:List Nat} {c:dg} {V:List Vr} {A:List Al} {G:List aX} {i:Nat} {L:Nat->Bool} {β:Nat->Nat->Prop} {a:Act} {w:World} {o:Oper}{d:Nat} {x y z:Operand} {ty:TypeId} {pos:String} {aI:Array Edge}
theorem DZ {f:FuncId} {fx:Operand} {ts:Array TypeId} {sz:Nat} {agg:Bool} {p q p1:Pred} (hf:aL P f) (hx:Has ms G i fx (D5 f sz agg q)) (h1:Has ms G i x p1) (hp:Post G i p)
  (hc:∀(M:Nat->Nat->Prop) (w:World) (v1 v2:Value),dR M w->aQ M (λw=>p1 w v1) w->aQ M (λw=>dP sz agg q w v2) w->Calls P f #[v1,v2] w (cA M p w)):OpOk P ops ms c V A G i ⟨some d,.call ⟨.value fx,#[x],ts⟩,ty,pos,aI,none⟩:=by
 refine iA (λL β a w hI hd hwf=>?_) rfl
 have hb:=hx.spec hI hd
 obtain⟨u,Kk,_⟩:=hb.out
 have hu:aQ (own c V L β) (λw=>dP sz agg q w u) w:=λw' he=>by
  obtain⟨u',e,h⟩:=hb w' he
  rw[Kk]at e
  injection e with _ _ e
  have:u=u':=by simpa using e
  rw[this]
  exact h
 have hr:(execOp a.eval ⟨some d,.call ⟨.value fx,#[x],ts⟩,ty,pos,aI,none⟩).run P w=.ok (.enter f #[a.eval x,u]) w:=by
  have:=hf #[a.eval x,u] w
  simp only[execOp,resolve,Kk,Deferred.ofValue,pure_bind,invoke]
  rw[show(#[x]:Array Operand).map a.eval=#[a.eval x] by simp]
  first|exact this|simpa using this
 unfold Does
 rw[hr]
 refine(hc _ w _ _ (bB hI) (h1.spec hI hd) hu).mono ?_
 rintro e w' ⟨v,rfl,hv,hb⟩
 exact⟨v,rfl,β,hI.value hwf (sP hwf rfl) rfl hb (λd q _ hq EA _=>by have:=hwf.aa q hq EA; cases this) λe he ht=>hv.imp λw=>hp.spec hwf he ht w v⟩
end
end Wx

namespace Wx
open Go Go.RowKit
section
variable {P:Program} {ops:Array Oper} {ms:List Nat} {c:dg} {V:List Vr} {A:List Al} {G:List aX} {i:Nat}{d:Nat} {x y z:Operand} {ty:TypeId} {pos:String} {aI:Array Edge}
end
section
variable {c:dg} {V:List Vr} {A:List Al} {G:List aX} {a:Act} {w:World}
end
section
variable {P:Program} {ops:Array Oper} {ms:List Nat} {c:dg} {V:List Vr} {A:List Al} {G:List aX} {i:Nat}{d:Nat} {x y z:Operand} {ty:TypeId} {pos:String} {aI:Array Edge}
end
section
variable {F:Rat->Pred} {j k:Nat} {l:List Rat}
theorem Jw {off:Nat} {x:Rat} (q:Nat) (ho:off=q*3) (hq:q<l.length) (hk:k<=j) {N:Nat}:∀w cs ds,cs.length=N->ds.length=3->pV F j l w (ak true cs)->pQ F k x w (ak true ds)->pV F j (l.set q x) w (ak true (cs.take off++ds++cs.drop (off+3))):=
 Jv q ho hq (Nat.le_refl j) hk
end
section
variable {P:Program} {ops:Array Oper} {ms:List Nat} {c:dg} {V:List Vr} {A:List Al} {G:List aX} {i:Nat}{d:Nat} {x y z:Operand} {ty:TypeId} {pos:String} {aI:Array Edge}
theorem sJ {T:TypeId} {s:Nat} {v:Vr} {al:Al} {F:Rat->Pred} {j k:Nat} {l:List Rat} {x:Rat} {r:List (Nat×Rel)} (q:Nat) (ha:Ij ms i s A=some al:=by exact rfl) (hv:lW al.var V=some v:=by exact rfl) (ho:bE ms i v=true:=by exact rfl) (cg:v.kd=.ptr:=by exact rfl) (hst:(v.st.all λq=>q.1==i||((ms.getD i 0).testBit q.1||(ms.getD q.1 0).testBit i))=true:=by kernel_rfl) (Aw:v.agg=true:=by exact rfl)
  (hc:cont (λj=>(ms.getD i 0).testBit j) v.c0 v.st=pv (pV F j l):=by exact rfl) (h:Has ms G i y (pQ F k x):=by exact Wx.hs) (hm:Nw i v.st=some (pv (pV F j (l.set q x)),r):=by exact rfl) (hk:k<=j:=by omega) (hr:(r.all λr=>(ms.getD r.1 0).testBit i)=true:=by kernel_rfl) (hq:q<l.length:=by omega) (hoff:al.off=q*3:=by(dsimp only<;>omega)) (hlen:al.off+3<=v.n:=by(dsimp only<;>omega)) (hcd:al.cond:=by trivial) (hf:Fits 3 true (pQ F k x):=by exact sq) (ht:Hi P T true 3=true:=by kernel_rfl)
  (qK:(V.all λy=>y.id==v.id||y.st.all λq=>q.1 != i)=true:=by kernel_rfl):OpOk P ops ms c V A G i ⟨none,.store T (.tmp s) y,ty,pos,aI,none⟩:=
 pJ ha hv ho cg hst hc h (bO ht) (by rw[Aw]; exact Jw q hoff hq hk) hm hr hcd hf (decide_eq_true hlen) qK
end
section
variable {P:Program} {ops:Array Oper} {ms:List Nat} {c:dg} {V:List Vr} {A:List Al} {G:List aX} {i:Nat}{d:Nat} {ty:TypeId} {pos:String} {aI:Array Edge}{f:FuncId} {fx x:Operand} {ts:Array TypeId} {p p1 q1:Pred} {φ:Prop}
theorem Tz (iH:φ->∀M w v1,dR M w->aQ M (λw=>p1 w v1) w->Calls P f #[v1] w (cA M p w)) (hx:Has ms G i fx (bR (.func (.func f) #[] #[])):=by exact hs) (h1:Has ms G i x q1:=by exact hs) (c1:∀w v,q1 w v->p1 w v:=by exact qX) (hp:Post G i p:=by exact pt rfl) (hφ:φ:=by first|omega|trivial) (hf:aL P f:=by exactλ_ _=>by kernel_rfl):
  OpOk P ops ms c V A G i ⟨some d,.call ⟨.value fx,#[x],ts⟩,ty,pos,aI,none⟩:=
 zi hf hx hp λ_ _ a w hI hd=>(by
  rw[show(#[x]:Array Operand).map a.eval=#[a.eval x] by simp]
  exact iH hφ _ w _ (bB hI) ((h1.imp c1).spec hI hd))
theorem Q7 {ψ:Prop} (hψ:ψ) (iH:φ->∀M w v1,dR M w->aQ M (λw=>p1 w v1) w->Calls P f #[v1] w (cA M p w)) (hx:Has ms G i fx (bR (.func (.func f) #[] #[])):=by exact hg) (h1:Has ms G i x q1:=by exact hg) (c1:∀w v,q1 w v->p1 w v:=by exact qX) (hp:Post G i p:=by exact pg (by assumption) rfl) (hφ:φ:=by first|omega|trivial) (hf:aL P f:=by exactλ_ _=>by kernel_rfl):
  OpOk P ops ms c V A G i ⟨some d,.call ⟨.value fx,#[x],ts⟩,ty,pos,aI,none⟩:=(λ_:ψ=>Tz iH hx h1 c1 hp hφ hf) hψ
theorem Pm {T:TypeId} {v:Vr} (J n:Nat) (hJ:1<=J:=by omega) (hv:zT i V=some v:=by exact rfl) (hT:v.T=T:=by exact rfl) (cg:v.kd=.ptr:=by exact rfl) (hc:v.c0=pv (pV bg J (List.replicate n 0)):=by exact rfl) (Aw:v.agg=true:=by exact rfl)
  (hz:∀w,(zeroValue T).run P w=.ok (.agg ((List.replicate n Zl.r).flatMap Zl.cs).toArray) w:=by exactλ_=>by kernel_rfl) (hl:((List.replicate n Zl.r).flatMap Zl.cs).length=v.n:=by kernel_rfl) (hst:((v.st.all λq=>(ms.getD q.1 0).testBit i)&&V.all λy=>y.dead != some i)=true:=by kernel_rfl) (hno:(G.all λe=>e.tag != some i)=true:=by kernel_rfl) (eu:(A.all λp=>p.var != v.id||p.tag.any λj=>(ms.getD j 0).testBit i)=true:=by kernel_rfl):
  OpOk P ops ms c V A G i ⟨some d,.alloc T,ty,pos,aI,none⟩:=by
 obtain⟨⟨k,hk⟩,hb⟩:=gg hv
 refine jz k hk hb hst hno eu hT cg hz rfl hl (BI _) hc λw=>?_
 rw[Aw]
 have h:=xC (List.replicate n Zl.r) w
 rw[List.map_replicate]at h
 refine vz hJ _ _ ?_
 show pS ((List.replicate n (0:Rat)).map (uc bg 1)) w _
 rw[List.map_replicate]
 exact h
end
end Wx

namespace Wx
open Go Go.RowKit
structure QK where
 b:Nat
 n:Nat
 cap:Nat
end Wx

namespace Wx
open Go Go.RowKit
section
variable {P:Program} {Q:Exit->Act->World->Prop} {c:dg} {V:List Vr} {A:List Al} {G:List aX} {a:Act} {w:World} {o:Oper}{d:Nat} {x y z u:Operand} {ty:TypeId} {pos:String} {aI:Array Edge}
theorem cO.mono {ops:Array Oper} {K K':Act->World->Prop} (h:cO P ops o a w K) (hK:∀a w,K a w->K' a w):cO P ops o a w K':=by
 unfold cO at *
 split at h
 ·rename_i hw
  rw[if_pos hw]
  exact h.mono hK
 ·rename_i hw
  rw[if_neg hw]
  exact hK _ _ h
end
end Wx
