import Derived.Test.YtikkgpljpglnbaaGreatCRMCmp
import Derived.Laws.Slices
namespace Wx
open Go Go.RowKit Go.Proofs
def mP (x y:Rat):Int:=if x<y then -1 else if x=y then 0 else 1
theorem eL (q:Rat):q.num<0↔q<0:=by
 rw[Rat.lt_iff]
 simp
theorem CW (q:Rat):dr q=mP q 0:=by
 unfold dr mP
 by_cases h:q<0
 ·rw[if_pos ((eL q).2 h),if_pos h]
 ·rw[if_neg (λh'=>h ((eL q).1 h')),if_neg h]
variable {x y:Rat}
theorem gN (h:x<y):mP x y = -1:=if_pos h
theorem jH (h:x=y):mP x y=0:=by unfold mP; rw[if_neg (by grind),if_pos h]
theorem gM (h:y<x):mP x y=1:=by unfold mP; rw[if_neg (by grind),if_neg (by grind)]
theorem Qd (x y:Rat):x<y\/x=y\/y<x:=by grind
theorem xX (h:x.num*y.den=y.num*x.den):x=y:=by
 rcases Qd x y with h1|h1|h1
 ·rw[Rat.lt_iff]at h1; omega
 ·exact h1
 ·rw[Rat.lt_iff]at h1; omega
theorem xU (m n:Nat):(m<n/\cD m n = -1)\/(m=n/\cD m n=0)\/(n<m/\cD m n=1):=by
 unfold cD
 rcases Nat.lt_trichotomy m n with h|h|h
 ·left; exact⟨h,if_pos h⟩
 ·right; left; exact⟨h,by rw[if_neg (by omega),if_neg (by omega)]⟩
 ·right; right; exact⟨h,by rw[if_neg (by omega),if_pos h]⟩
theorem Iu (x y:Rat):Ir x y=mP x y:=by
 have Kw:(0:Int)<x.den:=by have:=x.den_pos; omega
 have Me:(0:Int)<y.den:=by have:=y.den_pos; omega
 have ax:((x.num.natAbs*y.den:Nat):Int)=(x.num.natAbs:Int)*y.den:=by simp
 have ay:((y.num.natAbs*x.den:Nat):Int)=(y.num.natAbs:Int)*x.den:=by simp
 unfold Ir
 rw[CW,CW]
 rcases Qd x 0 with hx|hx|hx
 ·have nx:x.num<0:=(eL x).2 hx
  have Rf:(x.num.natAbs:Int) = -x.num:=by omega
  rw[gN hx]
  rcases Qd y 0 with hy|hy|hy
  ·have ny:y.num<0:=(eL y).2 hy
   have Rg:(y.num.natAbs:Int) = -y.num:=by omega
   rw[gN hy,if_pos rfl]
   rw[Rf,Int.neg_mul]at ax
   rw[Rg,Int.neg_mul]at ay
   rcases xU (x.num.natAbs*y.den) (y.num.natAbs*x.den)with⟨h,e⟩|⟨h,e⟩|⟨h,e⟩
   ·rw[e,gM (by rw[Rat.lt_iff]; omega)]; rfl
   ·rw[e,jH (xX (by omega))]; rfl
   ·rw[e,gN (by rw[Rat.lt_iff]; omega)]; rfl
  ·rw[jH hy,if_neg (by omega),if_pos (by omega),gN (by grind)]
  ·rw[gM hy,if_neg (by omega),if_pos (by omega),gN (by grind)]
 ·rw[jH hx]
  rcases Qd y 0 with hy|hy|hy
  ·rw[gN hy,if_neg (by omega),if_neg (by omega),gM (by grind)]
  ·rw[jH hy,if_pos rfl,jH (by grind),Int.mul_zero]
  ·rw[gM hy,if_neg (by omega),if_pos (by omega),gN (by grind)]
 ·have nx:0<x.num:=by
   have h1:=mt (eL x).1 (by grind)
   have h2:x.num≠0:=λh=>by have:=Rat.num_eq_zero.1 h; grind
   omega
  have Rf:(x.num.natAbs:Int)=x.num:=by omega
  rw[gM hx]
  rcases Qd y 0 with hy|hy|hy
  ·rw[gN hy,if_neg (by omega),if_neg (by omega),gM (by grind)]
  ·rw[jH hy,if_neg (by omega),if_neg (by omega),gM (by grind)]
  ·have ny:0<y.num:=by
    have h1:=mt (eL y).1 (by grind)
    have h2:y.num≠0:=λh=>by have:=Rat.num_eq_zero.1 h; grind
    omega
   have Rg:(y.num.natAbs:Int)=y.num:=by omega
   rw[gM hy,if_pos rfl,Int.mul_one]
   rw[Rf]at ax
   rw[Rg]at ay
   rcases xU (x.num.natAbs*y.den) (y.num.natAbs*x.den)with⟨h,e⟩|⟨h,e⟩|⟨h,e⟩
   ·rw[e,gN (by rw[Rat.lt_iff]; omega)]
   ·rw[e,jH (xX (by omega))]
   ·rw[e,gM (by rw[Rat.lt_iff]; omega)]
end Wx

namespace Wx
open Go Go.RowKit Go.Proofs
theorem Od {x y:Rat} {j k:Nat} (hx:fB j x) (hy:fB k y) (h:j+k<=100000000):∀w v1 v2,bu x w v1->bu y w v2->Calls Tryz.prog 71 #[v1,v2] w (jb (pI (mP x y)) w):=
 λw v1 v2 h1 h2=>(Iv w v1 v2 x y h1 h2 hx hy h).mono λ_ _ h=>by rw[Iu]at h; exact wY h
end Wx

namespace Wx
open Go Go.RowKit Go.Proofs
theorem fB.Ra {j k:Nat} {x y:Rat} (h:fB j x) (g:fB k y):fB (j+k+1) (x+y):=by
 have a:=h.1.mul g.2
 have b:=g.1.mul h.2
 have d:=h.2.mul g.2
 have hd:=Nat.mul_pos x.den_pos y.den_pos
 have ab:Bd (j+k+1) (x.num.natAbs*y.den+y.num.natAbs*x.den):=by
  unfold Bd at *
  rw[Nat.add_comm k j]at b
  rw[Nat.pow_succ]
  omega
 have d':Bd (j+k+1) (x.den*y.den):=d.mono (by omega)
 by_cases hs:decide (x.num<0)=decide (y.num<0)
 ·rw[add_same x y hs]; exact oK hd ab d'
 ·by_cases hge:y.num.natAbs*x.den<=x.num.natAbs*y.den
  ·rw[EM x y hs hge]; exact oK hd (ab.le (by omega)) d'
  ·rw[EN x y hs (by omega)]; exact oK hd (ab.le (by omega)) d'
theorem jb.map {p q:Pred} {w:World} (h:∀w v,p w v->q w v):∀{e:Ending} {w':World},jb p w e w'->jb q w e w':=λ⟨v,e,hp,hb⟩=>⟨v,e,h _ _ hp,hb⟩
variable {x y:Rat} {j k:Nat}
theorem N2 (h:j+k<=40000000):∀w v1 v2,pR j x w v1->pR k y w v2->Calls Tryz.prog 27 #[v1,v2] w (jb (pR (j+k+1) (x+y)) w):=λw v1 v2 h1 h2=>(Oc h1.1 h2.1 (by omega) w v1 v2 h1.2 h2.2).mono λ_ _=>jb.map (Gy (h1.1.Ra h2.1))
theorem xE (h:j+k<=100000000):∀w v1 v2,pR j x w v1->pR k y w v2->Calls Tryz.prog 28 #[v1,v2] w (jb (pR (j+k) (x*y)) w):=λw v1 v2 h1 h2=>(Og h1.1 h2.1 h w v1 v2 h1.2 h2.2).mono λ_ _=>jb.map (Gy (h1.1.mul h2.1))
theorem N4 (h:j+k<=100000000):∀w v1 v2,pR j x w v1->pR k y w v2->Calls Tryz.prog 57 #[v1,v2] w (jb (fJ (pR (j+k) (x/y)) (pI (if y=0 then 3 else 0))) w):=λw v1 v2 h1 h2=>(Oe h1.1 h2.1 h w v1 v2 h1.2 h2.2).mono λ_ _=>jb.map λ_ _ ⟨a,b,e,p,q⟩=>⟨a,b,e,⟨h1.1.quo h2.1,p⟩,q⟩
theorem Ls (_:True):∀w v1,pR j x w v1->Calls Tryz.prog 29 #[v1] w (jb (pB (decide (x=0))) w):=λw v1 h1=>LG x w v1 h1.2
theorem Lr (_:True):∀w v1,pR j x w v1->Calls Tryz.prog 26 #[v1] w (jb (pI (dr x)) w):=λw v1 h1=>LF x w v1 h1.2
theorem N3 (h:j+k<=100000000):∀w v1 v2,pR j x w v1->pR k y w v2->Calls Tryz.prog 71 #[v1,v2] w (jb (pI (mP x y)) w):=λw v1 v2 h1 h2=>Od h1.1 h2.1 h w v1 v2 h1.2 h2.2
theorem Im {z:Int} (h1:-9223372036854775808<=z) (h2:z<=9223372036854775807):fB 64 (z:Rat):=⟨by unfold Bd; rw[Rat.num_intCast]; omega,by unfold Bd; rw[Rat.den_intCast]; omega⟩
theorem xD {n:Int} (h:-9223372036854775808<=n/\n<=9223372036854775807):∀w v1,pI n w v1->Calls Tryz.prog 16 #[v1] w (jb (pR 64 (n:Rat)) w):=λw v1 h1=>(Of n h.1 h.2 w v1 h1).mono λ_ _=>jb.map (Gy (Im h.1 h.2))
theorem Ab {J:Nat} (hb:fB J (x+y)) (h:j+k<=40000000):∀w v1 v2,pR j x w v1->pR k y w v2->Calls Tryz.prog 27 #[v1,v2] w (jb (pR J (x+y)) w):=λw v1 v2 h1 h2=>(N2 h w v1 v2 h1 h2).mono λ_ _=>jb.map λ_ _ q=>⟨hb,q.2⟩
end Wx

namespace Wx
open Go Go.RowKit
def D8 (f:FuncId) (sz:Nat) (agg:Bool) (q:Pred):Pred:=λw v=>∃u,v=.func (.func f) #[] #[u]/\dD sz agg q w u
section
variable {P:Program} {ops:Array Oper} {ms:List Nat} {c:cM} {V:List Vr} {A:List Al} {G:List aV} {i:Nat} {L:Nat->Bool} {β:Nat->Nat->Prop} {a:Act} {w:World} {o:Oper}{d:Nat} {x y z:Operand} {ty:TypeId} {pos:String} {aL:Array Edge}
theorem D2 {f:FuncId} {fx:Operand} {ts:Array TypeId} {sz:Nat} {agg:Bool} {p q p1:Pred} (hf:aN P f) (hx:Has ms G i fx (D8 f sz agg q)) (h1:Has ms G i x p1) (hp:Post G i p)
  (hc:∀(M:Nat->Nat->Prop) (w:World) (v1 v2:Value),cR M w->aM M (λw=>p1 w v1) w->aM M (λw=>dD sz agg q w v2) w->Calls P f #[v1,v2] w (bD M p w)):OpOk P ops ms c V A G i ⟨some d,.call ⟨.value fx,#[x],ts⟩,ty,pos,aL,none⟩:=by
 refine iR (λL β a w hI hd hwf=>?_) rfl
 have hb:=hx.spec hI hd
 obtain⟨u,Ky,_⟩:=hb.out
 have hu:aM (own c V L β) (λw=>dD sz agg q w u) w:=λw' he=>by
  obtain⟨u',e,h⟩:=hb w' he
  rw[Ky]at e
  injection e with _ _ e
  have:u=u':=by simpa using e
  rw[this]
  exact h
 have hr:(execOp a.eval ⟨some d,.call ⟨.value fx,#[x],ts⟩,ty,pos,aL,none⟩).run P w=.ok (.enter f #[a.eval x,u]) w:=by
  have:=hf #[a.eval x,u] w
  simp only[execOp,resolve,Ky,Deferred.ofValue,pure_bind,invoke]
  rw[show(#[x]:Array Operand).map a.eval=#[a.eval x] by simp]
  first|exact this|simpa using this
 unfold Does
 rw[hr]
 refine(hc _ w _ _ (aZ hI) (h1.spec hI hd) hu).mono ?_
 rintro e w' ⟨v,rfl,hv,hb⟩
 exact⟨v,rfl,β,hI.value hwf (qA hwf rfl) rfl hb (λd q _ hq Ez _=>by have:=hwf.aa q hq Ez; cases this) λe he ht=>hv.imp λw=>hp.spec hwf he ht w v⟩
end
end Wx

namespace Wx
open Go Go.RowKit
section
variable {P:Program} {ops:Array Oper} {ms:List Nat} {c:cM} {V:List Vr} {A:List Al} {G:List aV} {i:Nat}{d:Nat} {x y z:Operand} {ty:TypeId} {pos:String} {aL:Array Edge}
end
section
variable {c:cM} {V:List Vr} {A:List Al} {G:List aV} {a:Act} {w:World}
end
section
variable {P:Program} {ops:Array Oper} {ms:List Nat} {c:cM} {V:List Vr} {A:List Al} {G:List aV} {i:Nat}{d:Nat} {x y z:Operand} {ty:TypeId} {pos:String} {aL:Array Edge}
end
section
variable {F:Rat->Pred} {j k:Nat} {l:List Rat}
end
section
variable {P:Program} {ops:Array Oper} {ms:List Nat} {c:cM} {V:List Vr} {A:List Al} {G:List aV} {i:Nat}{d:Nat} {x y z:Operand} {ty:TypeId} {pos:String} {aL:Array Edge}
end
section
variable {P:Program} {ops:Array Oper} {ms:List Nat} {c:cM} {V:List Vr} {A:List Al} {G:List aV} {i:Nat}{d:Nat} {ty:TypeId} {pos:String} {aL:Array Edge}{f:FuncId} {fx x:Operand} {ts:Array TypeId} {p p1 q1:Pred} {φ:Prop}
theorem Nw (gO:φ->∀M w v1,cR M w->aM M (λw=>p1 w v1) w->Calls P f #[v1] w (bD M p w)) (hx:Has ms G i fx (bp (.func (.func f) #[] #[])):=by exact hs) (h1:Has ms G i x q1:=by exact hs) (c1:∀w v,q1 w v->p1 w v:=by exact mQ) (hp:Post G i p:=by exact pt rfl) (hφ:φ:=by first|omega|trivial) (hf:aN P f:=by exactλ_ _=>by kernel_rfl):
  OpOk P ops ms c V A G i ⟨some d,.call ⟨.value fx,#[x],ts⟩,ty,pos,aL,none⟩:=
 ze hf hx hp λ_ _ a w hI hd=>(by
  rw[show(#[x]:Array Operand).map a.eval=#[a.eval x] by simp]
  exact gO hφ _ w _ (aZ hI) ((h1.imp c1).spec hI hd))
theorem Rz {ψ:Prop} (hψ:ψ) (gO:φ->∀M w v1,cR M w->aM M (λw=>p1 w v1) w->Calls P f #[v1] w (bD M p w)) (hx:Has ms G i fx (bp (.func (.func f) #[] #[])):=by exact hg) (h1:Has ms G i x q1:=by exact hg) (c1:∀w v,q1 w v->p1 w v:=by exact mQ) (hp:Post G i p:=by exact pg (by assumption) rfl) (hφ:φ:=by first|omega|trivial) (hf:aN P f:=by exactλ_ _=>by kernel_rfl):
  OpOk P ops ms c V A G i ⟨some d,.call ⟨.value fx,#[x],ts⟩,ty,pos,aL,none⟩:=(λ_:ψ=>Nw gO hx h1 c1 hp hφ hf) hψ
theorem Tf {T:TypeId} {v:Vr} (J n:Nat) (hJ:1<=J:=by omega) (hv:C7 i V=some v:=by exact rfl) (hT:v.T=T:=by exact rfl) (bS:v.kd=.ptr:=by exact rfl) (hc:v.c0=pv (pV bu J (List.replicate n 0)):=by exact rfl) (Dv:v.agg=true:=by exact rfl)
  (hz:∀w,(zeroValue T).run P w=.ok (.agg ((List.replicate n Zl.r).flatMap Zl.cs).toArray) w:=by exactλ_=>by kernel_rfl) (hl:((List.replicate n Zl.r).flatMap Zl.cs).length=v.n:=by kernel_rfl) (hst:((v.st.all λq=>(ms.getD q.1 0).testBit i)&&V.all λy=>y.dead != some i)=true:=by kernel_rfl) (hno:(G.all λe=>e.tag != some i)=true:=by kernel_rfl) (fC:(A.all λp=>p.var != v.id||p.tag.any λj=>(ms.getD j 0).testBit i)=true:=by kernel_rfl):
  OpOk P ops ms c V A G i ⟨some d,.alloc T,ty,pos,aL,none⟩:=by
 obtain⟨⟨k,hk⟩,hb⟩:=iZ hv
 refine lC k hk hb hst hno fC hT bS hz rfl hl (BS _) hc λw=>?_
 rw[Dv]
 have h:=BR (List.replicate n Zl.r) w
 rw[List.map_replicate]at h
 refine CR hJ _ _ ?_
 show pS ((List.replicate n (0:Rat)).map (ym bu 1)) w _
 rw[List.map_replicate]
 exact h
end
end Wx

namespace Wx
open Go Go.RowKit
end Wx

namespace Wx
open Go Go.RowKit
section
variable {P:Program} {Q:Exit->Act->World->Prop} {c:cM} {V:List Vr} {A:List Al} {G:List aV} {a:Act} {w:World} {o:Oper}{d:Nat} {x y z u:Operand} {ty:TypeId} {pos:String} {aL:Array Edge}
theorem cO.mono {ops:Array Oper} {K K':Act->World->Prop} (h:cO P ops o a w K) (hK:∀a w,K a w->K' a w):cO P ops o a w K':=by
 unfold cO at *
 split at h
 ·rename_i hw
  rw[if_pos hw]
  exact h.mono hK
 ·rename_i hw
  rw[if_neg hw]
  exact hK _ _ h
end
end Wx

namespace Wx
open Go Go.RowKit
def PU:Value->Bool
 |.int .u64 _=>false
 |.int .u32 _=>false
 |_=>true
theorem DV {v:Value} (h:PU v=true):gv v:=by
 intro n
 refine⟨?_,?_⟩<;>intro e<;>rw[e]at h<;>cases h
def De (P:Program) (T tx E:TypeId) (sz:Nat):Bool:=
 (match P.underlying T with|some (.slice E')=>E'==E|_=>false)&&(match P.underlying tx with|some (.slice _)=>true|_=>false) &&
 (match P.info? E with
  |some ti=>(ti.size==sz&&decide (ti.bytes<=4096))&&(match ti.zero with|some zv=>zv.cells.size==sz&&zv.cells.toList.all PU|none=>false)
  |none=>false)
theorem nI {P:Program} {T tx E:TypeId} {sz:Nat} (h:De P T tx E sz=true):xx P T tx E sz:=by
 unfold De at h
 simp only[Bool.and_eq_true]at h
 obtain⟨⟨h1,h2⟩,h3⟩:=h
 refine⟨?_,?_,?_⟩
 ·split at h1
  ·rename_i E' he
   rw[he,eq_of_beq h1]
  ·cases h1
 ·split at h2
  ·rename_i E' he
   exact⟨E',he⟩
  ·cases h2
 ·split at h3
  ·rename_i ti he
   simp only[Bool.and_eq_true]at h3
   obtain⟨⟨h4,h5⟩,h6⟩:=h3
   split at h6
   ·rename_i zv hz
    simp only[Bool.and_eq_true,List.all_eq_true]at h6
    exact⟨ti,zv,he,eq_of_beq h4,hz,eq_of_beq h6.1,λu hu=>DV (h6.2 u hu),of_decide_eq_true h5⟩
   ·cases h6
  ·cases h3
def wP:Pred:=λ_ v=>∃A,v=.slice A 0 0
section
variable {P:Program} {ops:Array Oper} {ms:List Nat} {c:cM} {V:List Vr} {A:List Al} {G:List aV} {i:Nat} {L:Nat->Bool} {β:Nat->Nat->Prop} {a:Act} {w:World} {o:Oper}{d:Nat} {x y z:Operand} {ty:TypeId} {pos:String} {aL:Array Edge}{T E:TypeId} {sz n:Nat} {agg:Bool} {f:Nat->Pred}
theorem D3 {T':TypeId} (h:Has ms G i x (bK sz agg n f)) (hn:0<n) (ht:P.underlying T=some (.slice E)) (hp:Post G i (pB false)):
  OpOk P ops ms c V A G i ⟨some d,.binOp .eql T x (.const (.slice none 0 0)) T',ty,pos,aL,none⟩:=
 cq rfl rfl rfl (.inl rfl) hp λL β a w hI hd=>⟨.bool false,w,by
  obtain⟨A',cap,e,_,_,k⟩:=(h.spec hI hd).out
  obtain⟨b,o,rfl,_⟩:=k hn
  show(do pure (Next.value (<-(do eqGuard .eql T x (.const (.slice none 0 0)) (a.eval x) (.slice none 0 0); Go.binOp .eql T (a.eval x) (.slice none 0 0))))).run P w=_
  rw[e]
  have hgd:eqGuard .eql T x (.const (.slice none 0 0)) (.slice (some ⟨b,o,none⟩) n cap) (.slice none 0 0)=pure ():=by unfold eqGuard; rfl
  have Mb:Go.binOp .eql T (.slice (some ⟨b,o,none⟩) n cap) (.slice none 0 0)=(do pure (.bool (<-Op.equal T (.slice (some ⟨b,o,none⟩) n cap) (.slice none 0 0)))):=rfl
  rw[hgd,Mb]
  have he:(Op.equal T (.slice (some ⟨b,o,none⟩) n cap) (.slice none 0 0)).run P w=.ok false w:=by
   show(Op.equalIn (9999+1) T _ _).run P w=_
   rw[Op.equalIn,Sem.run_bind,run_underlying ht]
   rfl
  simp only[pure_bind,Sem.run_bind,he,Result.andThen_ok,Sem.run_pure],Below.refl _ _,λ_ _=>rfl⟩
theorem tc (ht:pD P T E sz) (hp:Post G i wP):OpOk P ops ms c V A G i ⟨some d,.buildSlice T 0 #[],ty,pos,aL,none⟩:=
 cq rfl rfl rfl (.inl rfl) hp λL β a w hI hd=>by
  refine⟨.slice (some ⟨w.heap.size,0,none⟩) 0 0,w.alloc (.cells #[] E),?_,Below.alloc (Below.refl _ _) (Nat.le_refl _) _,λw' _=>⟨_,rfl⟩⟩
  show(do pure (Next.value (<-Instr.buildSlice T 0 ((#[]:Array (Nat×Operand)).map λ(i,x)=>(i,a.eval x))))).run P w=_
  have hu:(underlying T).run P w=.ok (.slice E) w:=run_underlying ht.under w
  have hrun:(Instr.buildSlice T 0 ((#[]:Array (Nat×Operand)).map λ(i,x)=>(i,a.eval x))).run P w=.ok (.slice (some ⟨w.heap.size,0,none⟩) 0 0) (w.alloc (.cells #[] E)):=by
   simp only[Instr.buildSlice,Sem.run_bind,hu,Result.andThen_ok,ht.size,Nat.zero_mul]
   rw[if_neg (by omega),if_pos trivial]
   have e:Array.map (λx=>(#[]:Array Value)[x%(#[]:Array Value).size]!) (Array.range 0)=#[]:=by simp
   have e2:(Array.map (λx:Nat×Operand=>(x.fst,a.eval x.snd)) #[]).toList=[]:=by simp
   simp only[pure_bind,e,e2,Instr.fill]
   rfl
  rw[Sem.run_bind,hrun]
  rfl
theorem td {z:List Value} {zv:Value} {p:Pred} (ht:pD P T E sz) (DC:∀w,(zeroValue E).run P w=.ok zv w) (AR:zv.cells=z.toArray) (xw:z.length=sz) (hsz:0<sz/\sz<=16777216) (h1:Has ms G i x p) (hf:Fits sz agg p) (hp:Post G i (bK sz agg 1 λ_=>p)):
  OpOk P ops ms c V A G i ⟨some d,.buildSlice T 1 #[(0,x)],ty,pos,aL,none⟩:=
 jg (fs:=[⟨agg,sz,iC⟩]) (ps:=[(0,p)]) (gs:=[⟨agg,sz,p⟩]) ht DC AR rfl (decide_eq_true ⟨hsz.1,Nat.one_pos,by omega⟩) (λ_=>trivial) xw (show dI ms G i [⟨agg,sz,iC⟩] [(0,x)] [(0,p)]from⟨⟨rfl,h1,_,rfl,hf⟩,trivial⟩) rfl (λ_=>p) (λk f h=>by cases k with
  |zero=>simp at h; rw[<-h]
  |succ k=>simp at h) hp
theorem fk:Fits 1 false (bK sz agg n f):=by
 rintro w v ⟨A,c,rfl,_⟩
 exact⟨[_],rfl,rfl,rfl,λu hu=>by simp at hu; subst hu; exact⟨fQ _ _ _,rfl⟩⟩
theorem Bh {tx:TypeId} {g:Nat->Pred} {yv:Vr} (k2:Nat) (hk2:V[k2]?=some yv) (hb:yv.born=some i) (jQ:yv.kd=.grow n sz)
  (Ku:yv.T=E) (fC:(A.all λp=>p.var != yv.id||p.tag.any λj=>(ms.getD j 0).testBit i)=true)
  (h1:Has ms G i x wP) (h2:Has ms G i y (bK sz agg n g)) (ht:xx P T tx E sz) (hagg:agg=false->sz=1) (hg:∀i,i<n->Fits sz agg (g i)) (hn:0<n) (hmax:n<=1073741824)
  (hp:Post G i (bK sz agg n g)):
  OpOk P ops ms c V A G i ⟨some d,.call ⟨.builtin .append,#[x,y],#[T,tx]⟩,ty,pos,aL,none⟩:=by
 refine iR (λL β a w hI hd hwf=>?_) rfl
 have hy:=List.mem_of_getElem? hk2
 obtain⟨A1,Qm⟩:=(h1.spec hI hd).out
 obtain⟨A2,dY,news,Ou,NC,hc2,hnl,zW,hnc,hnf⟩:=oM hagg hg (h2.spec hI hd)
 obtain⟨E',PD⟩:=ht.src
 obtain⟨ti,zv,hi,hsz,hz,hzs,PK,hby⟩:=ht.info
 subst hsz
 have hS:Src P ti.size tx (a.eval y) n news w:=by
  rw[Ou]
  exact BD PD hnl (λu hu=>(zW u hu).2) λh=>by
   obtain⟨b,o,e,hc⟩:=hnc h
   exact⟨b,o,e,λj u hj=>(hc j u hj).1⟩
 have hold:(Builtin.firstCells ti.size 0 (.slice A1 0 0)).run P w.drew=.ok ([]:List Value).toArray w.drew:=by
  cases A1 with
  |none=>exact run_firstCells_none w.drew ti.size 0 0 0
  |some p=>exact run_firstCells_some w.drew ti.size 0 p 0 0 [] (by simp) λj u hj=>by simp at hj
 have hrun:=run_append_grow_src (P:=P) w T tx ty E ti zv ht.under hi hz A1 0 0 ([]:List Value) hold (a.eval y) n news hS (by omega) (by omega) (growslice_fits (by omega) (by
   have:(0+n)*ti.bytes<=1073741824*4096:=Nat.mul_le_mul (by omega) hby
   omega))
 have hge:=grownCap_ge w (0+n) 0 E
 have hb0:Below w.heap.size w (w.drew.alloc (.cells (news++(Builtin.zeroCells zv.cells (grownCap w (0+n) 0 E-(0+n))).toList).toArray E)):=Below.alloc (Below.drew (Below.refl _ _)) (Nat.le_refl _) _
 refine eH (v:=.slice (some ⟨w.heap.size,0,none⟩) (0+n) (grownCap w (0+n) 0 E)) (w':=w.drew.alloc (.cells (news++(Builtin.zeroCells zv.cells (grownCap w (0+n) 0 E-(0+n))).toList).toArray E)) ?_ ?_
 ·rw[Qm,hrun]
  congr 3
  apply Array.ext'
  simp
 ·refine hI.appended hd hwf (E:=E) (f:=λ_ _ _=>True) (g:=g) (agg:=agg) (olds:=[]) (m:=0) hy hb (by rw[Nat.zero_add]; exact jQ) Ku rfl rfl fC (by simp) hnl (λi hi=>by omega) hnf (by simpa using hp) (heap_alloc_new w.drew _) ?_ hge (grownCap_le_maxLen w (0+n) 0 E (by unfold maxLen; omega)) ?_ ?_ (.inl hI.below.size) ⟨hb0.os,hb0.tape,hb0.output,hb0.size⟩ (λk hk _=>hb0.block k (Nat.lt_of_lt_of_le hk hI.below.size))
   (λz hz hl _ k hk=>⟨hb0.block k (fW hI hz hl hk),λe=>absurd e (Nat.ne_of_lt (fW hI hz hl hk))⟩) (Ext.bI hb0) (λz hz hl _=>Ext.bI hb0) (λj hj=>absurd hj (Nat.lt_irrefl _))
  ·rw[List.length_append,hnl,Array.length_toList,size_zeroCells,hzs,<-Nat.add_mul]
   congr 1; omega
  ·intro u hu
   rcases List.mem_append.1 hu with hu|hu
   ·exact(zW u hu).1
   ·exact eB PK _ u hu
  ·rw[List.nil_append,Nat.zero_add,<-hnl,List.take_left]
theorem AE {id s n0:Nat} {w0:World} {N:Nat} {M:Nat->Nat->Prop} {m':Nat} {ag:Bool} {p0:Rel} {st:List (Nat×Rel)} (hI:aT ⟨N,w0,M,λ_=>False⟩ V [] G none_ β a w) (hk:V[n0]?=some ⟨id,s,none,none,.grow n sz,T,m',ag,p0,st⟩) (hn:0<n) {k:Nat} (hg:G[k]?=some ⟨none,none,s,bK sz agg n f⟩):
  ∃(b cap:Nat) (cur:List Value),sl a s=.slice (some ⟨b,0,none⟩) n cap/\w0.heap.size<=b/\w.heap[b]?=some (.cells cur.toArray T (0,0))/\cur.length=cap*sz/\n<=cap/\cap<=maxLen/\(∀v∈cur,gv v)/\∀i,i<n->f i w (au agg ((cur.drop (i*sz)).take sz)):=by
 have hx:=List.mem_of_getElem? hk
 rcases (bt (m:=n) (sz:=sz) rfl).1 (hI.var _ hx rfl)with⟨_,h0,_⟩|⟨b,cap,cur,hB,yE,gJ,hblk,nR,Ps,hcm,yA⟩
 ·omega
 ·refine⟨b,cap,cur,yE,gJ.elim (λh=>h) (λh=>h.elim),hblk,nR,Ps,hcm,yA,λi hi=>?_⟩
  obtain⟨A',cap',e,_,_,hel⟩:=(hI.gY _ (List.mem_of_getElem? hg) rfl rfl).out
  have e:sl a s=.slice A' n cap':=e
  rw[yE]at e
  injection e with eA _ _
  obtain⟨b',o',eb,hel⟩:=hel hn
  rw[<-eA]at eb
  injection eb with eb
  injection eb with e1 e2
  subst e1 e2
  obtain⟨cs,hl,hc,hf⟩:=hel i hi
  have hle:(i+1)*sz<=cap*sz:=Nat.mul_le_mul_right _ (by omega)
  rw[Nat.add_mul,Nat.one_mul]at hle
  have:(cur.drop (i*sz)).take sz=cs:=by
   refine jE (w:=w) (b:=b) (o:=i*sz) (by rw[List.length_take,List.length_drop,hl,nR]; omega) (λj u hj=>?_) (λj u hj=>by have:=hc j u hj; rwa [Nat.zero_add]at this)
   rw[List.getElem?_take]at hj
   split at hj
   ·rw[List.getElem?_drop]at hj
    simp only[World.cell?,hblk]
    simpa using hj
   ·cases hj
  rw[this]
  exact hf
variable {fn:Func}
theorem we {f:FuncId} {C0:Code} {vs:List Value} {M:Nat->Nat->Prop} {R:World->Ending->World->Prop} {N:Nat} (hf:P.funcs[f]?=some fn) (hb:fn.body=some C0) (hN:fn.ntmps=N) (hlen:decide (vs.length<=N)=true) (hM:cR M w) (hG:dH M w vs G)
  (h:∀a,Inv ⟨N,w,M,λ_=>False⟩ [] [] G none_ a w->C0.wp P (bodyPost P fn (R w)) a w):Calls P f vs.toArray w (R w):=
 calls_of_wp hf hb (h _ (pT hM (by have:=of_decide_eq_true hlen; simp[hN]; omega) rfl hG.ok))
end
end Wx
