import Derived.Test.YtfnmkhlleanppaaGreatDoorJWC20
import Derived.Test.YtfnmkhlleanppaaGreatDoorCWCSemBox
import Ieee.Arith
import GoSem.Core.Float
namespace Wx
open Go Go.RowKit
set_option linter.unusedVariables false
section
variable {P:Program} {c:bQ} {V:List Vr} {A:List Al} {G:List aN} {a:Act} {w:World} {β:Nat->Nat->Prop} {x y z:Operand} {d:Nat} {ty:TypeId} {pos:String} {aft:Array Edge}
theorem aQ.xm {b:Nat} {R:(Nat->Prop)->World->Prop} {v:Value} {w':World} (h:aQ c V [] G none_ β a w) (hb:Below w.heap.size w w') (hB:w.heap.size<=b) (hlt:b<w'.heap.size) (hno:∀o u,w'.cell? ⟨b,o,none⟩=some u->dB u) (hR:∀M,cS M w'->aJ (minus M (·=b)) (R (·=b)) w') (hd:d<c.N)
  (hV:(V.all λy=>(y.slot != d&&y.id != d)&&(y.born.isNone&&y.dead.isNone))=true) (hG:(G.all λe=>e.slot != d)=true):
  Inv c (cr d d (λB w _=>R B w)::V) [] (⟨none,none,d,aG v⟩::G) none_ (a.put (some d) v) w':=by
 have hV:∀y,y∈V->(y.slot≠d/\y.id≠d)/\live none_ y=true:=λy hy=>by
  rw[List.all_eq_true]at hV
  have:=hV y hy
  simp only[Bool.and_eq_true,bne_iff_ne]at this
  refine⟨this.1,?_⟩
  unfold live
  cases hb:y.born with
  |some j=>rw[hb]at this; cases this.2.1
  |none=>cases hd:y.dead with
   |some j=>rw[hd]at this; cases this.2.2
   |none=>rfl
 have hG:∀e,e∈G->e.slot≠d:=λe he=>by
  rw[List.all_eq_true]at hG
  simpa using hG e he
 let β':Nat->Nat->Prop:=λs=>if s=d then(·=b)else β s
 have hβ:∀y,y∈V->β' y.id=β y.id:=λy hy=>if_neg (hV y hy).1.2
 have qA:β' d=(·=b):=if_pos rfl
 have e3:Ext (own c V none_ β) w w':=Ext.bH hb
 have hown:∀k j,k<w.heap.size->own c (cr d d (λB w _=>R B w)::V) none_ β' k j->own c V none_ β k j:=by
  rintro k j hk (h1|⟨y,hy,h1,h2,h3⟩)
  ·exact .inl h1
  ·rcases List.mem_cons.1 hy with rfl|hy
   ·have h2:β' d k:=h2
    rw[qA]at h2
    have h2:k=b:=h2
    omega
   ·rw[hβ y hy]at h2
    exact .inr ⟨y,hy,h1,h2,h3⟩
 have fg:cS (own c (cr d d (λB w _=>R B w)::V) none_ β') w':=by
  rintro k j hk
  rcases Nat.lt_or_ge k w.heap.size with h'|h'
  ·obtain⟨h1,h2⟩:=aF h k j (hown k j h' hk)
   refine⟨Nat.lt_of_lt_of_le h1 hb.size,λu hu=>h2 u ?_⟩
   rw[World.cell?_of_block (w:=w) (a:=⟨k,j,none⟩) (hb.block k h')]at hu
   exact hu
  ·rcases hk with h1|⟨y,hy,h1,h2,h3⟩
   ·exact absurd (kS h (.inl h1)) (by omega)
   ·rcases List.mem_cons.1 hy with rfl|hy
    ·have h2:β' d k:=h2
     rw[qA]at h2
     have h2:k=b:=h2
     subst h2
     exact⟨hlt,λu hu=>hno j u hu⟩
    ·rw[hβ y hy]at h2
     exact absurd (cE h hy h1 h2) (by omega)
 have sd:∀s,s≠d->sl (a.put (some d) v) s=sl a s:=λs hs=>bG λe=>hs (Option.some.inj e).symm
 refine⟨β',by rw[fc]; exact h.size,by rw[put_defers]; exact h.defers,h.below.trans (bX.bH hb),h.iK λk hk hn=>hb.block k (Nat.lt_of_lt_of_le hk h.below.size),?_,?_,(λp hp=>by cases hp),?_⟩
 ·intro y hy _
  rcases List.mem_cons.1 hy with rfl|hy
  ·refine(aB rfl).2 ⟨λk hk=>?_,?_⟩
   ·have hk:β' d k:=hk
    rw[qA]at hk
    have hk:k=b:=hk
    subst hk
    exact⟨.inl (Nat.le_trans h.below.size hB),hlt,λo u hu=>hno o u hu⟩
   ·show aJ (minus _ (β' d)) (λw=>R (β' d) w) w'
    rw[qA]
    exact hR _ fg
  ·have C1:=(hV y hy).2
   refine(h.var y hy C1).keep (sd _ (hV y hy).1.1) (hβ y hy) (λg hg=>hb.block g (cE h hy C1 hg)) hb.size (λF hF=>dh e3 hown hF) (λF hF=>?_) rfl
   refine dh (M:=minus (own c V none_ β) (β y.id)) (Ext.bH hb) ?_ hF
   rintro k j hk ⟨h1,h2⟩
   exact⟨hown k j hk h1,h2⟩
 ·intro y y' g hy hy' _ _ hne
  rcases List.mem_cons.1 hy with rfl|hy<;>rcases List.mem_cons.1 hy' with rfl|hy'
  ·exact absurd rfl hne
  ·intro h1 h2
   have h1:β' d g:=h1
   rw[qA]at h1
   rw[hβ y' hy']at h2
   have h1:g=b:=h1
   exact absurd (cE h hy' (hV y' hy').2 h2) (by omega)
  ·intro h1 h2
   have h2:β' d g:=h2
   rw[qA]at h2
   rw[hβ y hy]at h1
   have h2:g=b:=h2
   exact absurd (cE h hy (hV y hy).2 h1) (by omega)
  ·rw[hβ y hy,hβ y' hy']
   exact h.apart y y' g hy hy' (hV y hy).2 (hV y' hy').2 hne
 ·intro e he ho hf
  rcases List.mem_cons.1 he with rfl|he
  ·refineλw'' _=>?_
   show sl (a.put (some d) v) d=v
   exact dr (by rw[h.size]; exact hd)
  ·have:=h.ew e he ho hf
   show aJ _ (λw=>e.p w (sl (a.put (some d) v) e.slot)) w'
   rw[sd _ (hG e he)]
   exact dh e3 hown this
end
section
variable {P:Program} {ops:Array Oper} {ms:List Nat} {c:bQ} {V:List Vr} {A:List Al} {G:List aN} {i:Nat}{x y z:Operand} {d:Nat} {ty:TypeId} {pos:String} {aft:Array Edge}
end
end Wx

namespace Wx
open Go Go.RowKit
set_option linter.unusedVariables false
section
variable {P:Program} {ops:Array Oper} {ms:List Nat} {c:bQ} {V:List Vr} {A:List Al} {G:List aN} {i d:Nat} {x y:Operand} {ty:TypeId} {pos:String} {aft:Array Edge}
end
section
variable {P:Program} {c:bQ} {V:List Vr} {G:List aN} {a:Act} {w:World} {β:Nat->Nat->Prop} {x y z:Operand} {d:Nat} {ty:TypeId} {pos:String} {aft:Array Edge}
theorem mA {f:FuncId} {fx:Operand} {args:Array Operand} {ts:Array TypeId} {K:Act->World->Prop} (hf:aK P f) (sL:a.eval fx=.func (.func f) #[] #[]) (h:Calls P f (args.map a.eval) w λe w'=>∃v,e=.returned v/\K (a.put (some d) v) w'):
  Does P ⟨some d,.call ⟨.value fx,args,ts⟩,ty,pos,aft,none⟩ a w K:=by
 have hr:(execOp a.eval ⟨some d,.call ⟨.value fx,args,ts⟩,ty,pos,aft,none⟩).run P w=.ok (.enter f (args.map a.eval)) w:=by
  have:=hf (args.map a.eval++#[]) w
  simp only[execOp,resolve,sL,Deferred.ofValue,pure_bind,invoke]
  rw[Array.append_empty]at this
  first|exact this|simpa using this
 unfold Does
 rw[hr]
 exact h
end
end Wx

namespace Wx
open Go Go.RowKit
section
variable {P:Program} {ops:Array Oper} {ms:List Nat} {c:bQ} {V:List Vr} {A:List Al} {G:List aN} {i:Nat}{d:Nat} {x y:Operand} {ty:TypeId} {pos:String} {aft:Array Edge}
end
end Wx

namespace Wx
open Ieee
end Wx

namespace Wx
open Ieee
end Wx

namespace Wx
open Go Go.RowKit
section
variable {P:Program} {ops:Array Oper} {ms:List Nat} {c:bQ} {V:List Vr} {A:List Al} {G:List aN} {i:Nat}{d:Nat} {x y:Operand} {ty:TypeId} {pos:String} {aft:Array Edge}
def tB (m n:Int):Int:=if n>m then n else m
theorem BW {ts:Array TypeId} {m n:Int} (h1:Has ms G i x (pI m)) (h2:Has ms G i y (pI n)) (hp:Post G i (pI (tB m n))):OpOk P ops ms c V A G i ⟨some d,.call ⟨.builtin .max,#[x,y],ts⟩,ty,pos,aft,none⟩:=
 eM rfl rfl rfl rfl h1 h2 hp λρ w h1 h2=>⟨.int .i64 (tB m n),by
  have h1:ρ x=.int .i64 m:=h1
  have h2:ρ y=.int .i64 n:=h2
  show(do let d <-resolve ρ ⟨.builtin .max,#[x,y],ts⟩ ty; invoke d.target d.args).run P w=_
  simp only[resolve,invoke,pure_bind,builtin]
  rw[show(#[x,y]:Array Operand).map ρ=#[ρ x,ρ y] by simp,h1,h2]
  rfl,λ_ _ _=>rfl⟩
end
end Wx

namespace Wx
open Go Go.RowKit
section
variable {P:Program} {ops:Array Oper} {ms:List Nat} {c:bQ} {V:List Vr} {A:List Al} {G:List aN} {i:Nat}{d:Nat} {x y z:Operand} {ty:TypeId} {pos:String} {aft:Array Edge}{f:FuncId} {sz:Nat} {ag:Bool} {q:Pred}
theorem IX (h:Has ms G i x (dM sz ag q):=by exact hs) (hp:Post G i (zx f sz ag q):=by exact pt rfl):OpOk P ops ms c V A G i ⟨some d,.makeFunc (.func f) #[] #[x],ty,pos,aft,none⟩:=
 eL rfl rfl rfl rfl h hp λρ w _=>⟨.func (.func f) #[] #[ρ x],by
  show(do pure (Next.value (<-Instr.makeFunc (.func f) ((#[]:Array Operand).map ρ) ((#[x]:Array Operand).map ρ)))).run P w=_
  rw[show(#[x]:Array Operand).map ρ=#[ρ x] by simp,show(#[]:Array Operand).map ρ=#[] by simp]
  rfl,λ_ h=>⟨ρ x,rfl,h⟩⟩
variable {ts:Array TypeId} {p p1 q1:Pred}
theorem LP {fx:Operand} (hf:aK P f) (gj:∀(M:Nat->Nat->Prop) (w:World) (v1 v2:Value),cS M w->aJ M (λw=>p1 w v1) w->aJ M (λw=>dM sz ag q w v2) w->Calls P f #[v1,v2] w (cI M p w)) (hx:Has ms G i fx (zx f sz ag q):=by exact hs) (h1:Has ms G i x q1:=by exact hs) (c1:∀w v,q1 w v->p1 w v:=by exact jw) (hp:Post G i p:=by exact pt rfl):OpOk P ops ms c V A G i ⟨some d,.call ⟨.value fx,#[x],ts⟩,ty,pos,aft,none⟩:=
 wo hf hx (h1.imp c1) hp gj
variable {φ:Prop}
theorem Gp (gj:φ->∀M w,cS M w->Calls P f #[] w (cI M p w)) (hp:Post G i p:=by exact pt rfl) (hφ:φ:=by first|omega|trivial) (hf:aK P f:=by exactλ_ _=>by kernel_rfl):
  OpOk P ops ms c V A G i ⟨some d,.call ⟨.value (.func f),#[],ts⟩,ty,pos,aft,none⟩:=fX hf hp λL β a w hI hd=>(by
  rw[show(#[]:Array Operand).map a.eval=#[] by simp]
  exact gj hφ _ w (aF hI) )
theorem AW {x1:Operand} {ψ:Prop} (hψ:ψ) (gj:φ->∀M w v1,cS M w->aJ M (λw=>p1 w v1) w->Calls P f #[v1] w (cI M p w)) (h1:Has ms G i x1 q1:=by exact hg) (c1:∀w v,q1 w v->p1 w v:=by exact jw) (hp:Post G i p:=by exact pg (by assumption) rfl) (hφ:φ:=by first|omega|trivial) (hf:aK P f:=by exactλ_ _=>by kernel_rfl):
  OpOk P ops ms c V A G i ⟨some d,.call ⟨.value (.func f),#[x1],ts⟩,ty,pos,aft,none⟩:=(λ_:ψ=>nH gj h1 c1 hp hφ hf) hψ
end
end Wx

namespace Wx
open Go Go.RowKit
theorem vJ {V:List Vr} {N:Nat} {B:Nat->Prop} {J:World->Prop} (h:ia N V=some (jV N B J):=by exact rfl):∃r:Rel,ia (jV N B J).id V=some ⟨(jV N B J).id,(jV N B J).slot,none,none,(jV N B J).kd,(jV N B J).T,(jV N B J).n,(jV N B J).agg,r,[]⟩/\((jV N B J).born=none/\(jV N B J).dead=none/\(jV N B J).st=[])/\∀F w v,r F w v->(jV N B J).c0 F w v:=⟨_,h,⟨rfl,rfl,rfl⟩,λ_ _ _ h=>h⟩
end Wx

namespace Wx
open Go Go.RowKit
theorem vT {c:bQ} {V:List Vr} {G:List aN} {a:Act} {w:World} {i s:Nat} (h:Inv c (cr i s (λ_ _ _=>False)::V) [] G none_ a w):False:=by
 obtain⟨β,h⟩:=h
 exact((aB rfl).1 (h.var _ (List.mem_cons_self ..) rfl)).2.out
section
variable {P:Program} {ops:Array Oper} {ms:List Nat} {c:bQ} {V:List Vr} {A:List Al} {G:List aN} {i:Nat}{d:Nat} {x y z:Operand} {ty:TypeId} {pos:String} {aft:Array Edge}
end
section
variable {P:Program} {w:World} {fn:Func}
end
end Wx

namespace Wx
open Go Go.RowKit Go.Proofs
instance M9:CB Tryz.prog 3 false 1:=⟨bV (by kernel_rfl)⟩
instance Na:CB Tryz.prog 4 false 1:=⟨bV (by kernel_rfl)⟩
instance Nb:CB Tryz.prog 2 false 1:=⟨bV (by kernel_rfl)⟩
instance Nc:CB Tryz.prog 25 false 1:=⟨bV (by kernel_rfl)⟩
instance Nd:CB Tryz.prog 50 true 3:=⟨bV (by kernel_rfl)⟩
end Wx

namespace Wx
set_option maxRecDepth 100000
set_option maxHeartbeats 1000000
open Go Go.RowKit Go.Proofs
set_option linter.unusedVariables false
attribute [local irreducible] OpOk
def Cl (h x:Int):Int:=kY (kY (31*kY (h+kY x))+7)
def qw (h:Int) (s:ByteArray):Nat->Int
 |0=>h
 |k+1=>Cl (qw h s k) (bz s k)
def lK (h:Int) (s:ByteArray):Int:=qw h s s.size
def dx (φ:Int->Bool) (s:ByteArray):Bool:=decide (∀k,k<s.size->φ (bz s k)=true)&&decide (s≠⟨#[]⟩)
def cP (x:Int):Bool:=decide (x>32)&&decide (x<127)
def gA (x:Int):Bool:=decide (x>=48)&&decide (x<=57)
def gG (x:Int):Bool:=((decide (x>=97)&&decide (x<=122))||gA x)||decide (x=45)
def kN (x:Int):Bool:=gA x||(decide (x>=97)&&decide (x<=102))
variable {h:Int} {s:ByteArray}
theorem yA (hz:s.size<=1000000):K2 Tryz.prog 12 (ei h) (pT s) (ei (lK h s)):=by
 intro M w0 v0 v1 hM hv0 da
 refine fT (N:=22) Tryz.func12 rfl rfl rfl hM hv0 da λa hI=>?_
 refine au hI 1 [Uc 0 4 _] (.kk .z) ⟨mv,trivial⟩ (.aU .z) λa w hI=>?_
 refine ah ?_
 refine au hI 4 [Uc 0 7 _,Uc 1 8 _,Uc 2 9 _,Uc 3 10 _] (.aU .z) ⟨mv,KV,ln,mv,trivial⟩ (.pP (.aU .z)) λa w hI=>?_
 refine aD ?_
 refine qz [] [Uz 4 _,Uz 8 _,Uz 9 _] (λ(i:Nat)=>[]) (λ(i:Nat)=>[Uz 10 (pI (i:Int)),Uz 0 (ei (qw h s i))]) (λ(i:Nat)=>i<=s.size) (λ(i:Nat)=>s.size-i) (0) (Nat.zero_le _) hI trivial ⟨gi,gi,gi,gc,gc,trivial⟩ ?_
 intro i a w hp hI
 refine au hI 1 [Uc 0 11 _] (.af (.k .z)) ⟨bn,trivial⟩ (.af (.kk .z)) λa w hI=>?_
 refine ah ?_
 refine jv hI (λt1=>?_) (λt1=>?_)
 ·
  refine ak ?_
  refine ae ?_
  refine ah ?_
  refine aD ?_
  refine au hI 3 [Uc 0 12 _,Uc 1 13 _,Uc 2 6 _] (.af (.kk .z)) ⟨ix,ax hs (pt rfl) (by kernel_rfl) (cg (kQ _) rfl rfl),mv,trivial⟩ (.af (.gE (.k .z))) λa w hI=>?_
  refine iP hI 7 [Uc 0 14 _,Uc 1 15 _,Uc 2 16 _,Uc 3 17 _,Uc 4 18 _,Uc 5 19 _,Uc 6 0 _] (.af (.t 6 (.k .z))) ⟨mv,mv,CF,xk,HK,xk,mv,trivial⟩ (.af (.d8 (.k .z))) λa w hI=>?_
  refine bk ?_
  refine ae ?_
  refine iP hI 2 [Uc 0 20 _,Uc 1 10 _] (.aU (.t 1 (.k .z))) ⟨bn,mv,trivial⟩ (.bj (.nP .z)) λa w hI=>?_
  refine ae ?_
  exact nQ (i+1) (by omega) hI trivial ⟨gc,gc,gc,gc,gc,trivial⟩ (by omega)
 ·
  refine cj ?_
  refine aC ?_
  refine aC ?_
  refine bf ?_
  refine ae ?_
  obtain rfl:i=s.size:=by omega
  refine au hI 2 [Uc 0 21 _,Uc 1 4 _] (.t 1 (.af (.k .z))) ⟨mv,mv,trivial⟩ (.bp (.cf .z)) λa w hI=>?_
  refine av ?_
  exact bW hI rfl cm
theorem Ii (hz:s.size<=1000000):K2 Tryz.prog 13 (ei h) (pT s) (ei (lK h s)):=by
 intro M w0 v0 v1 hM hv0 da
 refine fT (N:=23) Tryz.func13 rfl rfl rfl hM hv0 da λa hI=>?_
 refine au hI 1 [Uc 0 4 _] (.kk .z) ⟨mv,trivial⟩ (.aU .z) λa w hI=>?_
 refine au hI 2 [Uc 0 7 _,Uc 1 5 _] (.aU .z) ⟨mv,mv,trivial⟩ (.po (.k .z)) λa w hI=>?_
 refine ah ?_
 refine au hI 1 [Uc 0 6 _] (.aU .z) ⟨mv,trivial⟩ (.af .z) λa w hI=>?_
 refine aD ?_
 refine qz [] [Uz 1 _,Uz 4 _] (λ(i:Nat)=>[]) (λ(i:Nat)=>[Uz 6 (pI (i:Int)),Uz 5 (ei (qw h s i))]) (λ(i:Nat)=>i<=s.size) (λ(i:Nat)=>s.size-i) (0) (Nat.zero_le _) hI trivial ⟨gi,gi,gc,gc,trivial⟩ ?_
 intro i a w hp hI
 refine ah ?_
 refine au hI 4 [Uc 0 8 _,Uc 1 9 _,Uc 2 10 _,Uc 3 11 _] (.af .z) ⟨mv,mv,gF,bn,trivial⟩ (.af (.cf .z)) λa w hI=>?_
 refine jv hI (λt1=>?_) (λt1=>?_)
 ·
  refine ak ?_
  refine ae ?_
  refine ah ?_
  refine aD ?_
  refine iP hI 9 [Uc 0 14 _,Uc 1 15 _,Uc 2 16 _,Uc 3 17 _,Uc 4 18 _,Uc 5 19 _,Uc 6 20 _,Uc 7 21 _,Uc 8 5 _] (.aU (.t 8 (.k .z))) ⟨mv,mv,mv,lJ i,CF,xk,HK,xk,mv,trivial⟩ (.bj (.d8 (.dk .z))) λa w hI=>?_
  refine bk ?_
  refine ae ?_
  refine iP hI 3 [Uc 0 12 _,Uc 1 13 _,Uc 2 6 _] (.kk (.t 2 (.k .z))) ⟨mv,bn,mv,trivial⟩ (.bS (.eC .z)) λa w hI=>?_
  refine ae ?_
  exact nQ (i+1) (by omega) hI trivial ⟨gc,gc,gc,gc,trivial⟩ (by omega)
 ·
  refine cj ?_
  refine aC ?_
  refine aC ?_
  refine bf ?_
  refine ae ?_
  obtain rfl:i=s.size:=by omega
  refine au hI 2 [Uc 0 22 _,Uc 1 4 _] (.k (.t 1 (.aU .z))) ⟨mv,mv,trivial⟩ (.bp (.eC .z)) λa w hI=>?_
  refine av ?_
  exact bW hI rfl cm
variable {x:Int}
theorem By (_:True):K1 Tryz.prog 63 (sM x) (pB (cP x)):=by
 intro M w0 v0 hM hv0
 refine fR (N:=9) Tryz.func63 rfl rfl rfl hM hv0 λa hI=>?_
 refine au hI 1 [Uc 0 2 _] (.k .z) ⟨mv,trivial⟩ (.kk .z) λa w hI=>?_
 refine au hI 7 [Uc 0 3 _,Uc 1 4 _,Uc 2 5 _,Uc 3 6 _,Uc 4 7 _,Uc 5 8 _,Uc 6 2 _] (.k (.t 6 .z)) ⟨mv,bn,mv,gd λh=>cy h,gd λh=>fS h,pk,mv,trivial⟩ (.d8 (.k .z)) λa w hI=>?_
 refine av ?_
 exact bW hI rfl cm
theorem tr (_:True):K1 Tryz.prog 70 (sM x) (pB (gA x)):=by
 intro M w0 v0 hM hv0
 refine fR (N:=9) Tryz.func70 rfl rfl rfl hM hv0 λa hI=>?_
 refine au hI 1 [Uc 0 2 _] (.k .z) ⟨mv,trivial⟩ (.kk .z) λa w hI=>?_
 refine au hI 7 [Uc 0 3 _,Uc 1 4 _,Uc 2 5 _,Uc 3 6 _,Uc 4 7 _,Uc 5 8 _,Uc 6 2 _] (.k (.t 6 .z)) ⟨mv,bn,mv,gd λh=>cy h,gd λh=>fS h,pk,mv,trivial⟩ (.d8 (.k .z)) λa w hI=>?_
 refine av ?_
 exact bW hI rfl cm
theorem BA (_:True):K1 Tryz.prog 107 (sM x) (pB (gG x)):=by
 intro M w0 v0 hM hv0
 refine fR (N:=17) Tryz.func107 rfl rfl rfl hM hv0 λa hI=>?_
 refine au hI 1 [Uc 0 2 _] (.k .z) ⟨mv,trivial⟩ (.kk .z) λa w hI=>?_
 refine au hI 15 [Uc 0 3 _,Uc 1 4 _,Uc 2 5 _,Uc 3 6 _,Uc 4 7 _,Uc 5 8 _,Uc 6 9 _,Uc 7 10 _,Uc 8 11 _,Uc 9 12 _,Uc 10 13 _,Uc 11 14 _,Uc 12 15 _,Uc 13 16 _,Uc 14 2 _] (.k (.t 14 .z)) ⟨mv,bn,mv,gd λh=>cy h,gd λh=>fS h,pk,mv,gd λh=>cy h,gd λh=>AW h tr,pk,mv,gd λh=>cy h,gd λh=>fS h,pk,mv,trivial⟩ (.d8 (.d8 (.k .z))) λa w hI=>?_
 refine av ?_
 exact bW hI rfl cm
theorem EH (_:True):K1 Tryz.prog 39 (sM x) (pB (kN x)):=by
 intro M w0 v0 hM hv0
 refine fR (N:=13) Tryz.func39 rfl rfl rfl hM hv0 λa hI=>?_
 refine au hI 1 [Uc 0 2 _] (.k .z) ⟨mv,trivial⟩ (.kk .z) λa w hI=>?_
 refine au hI 11 [Uc 0 3 _,Uc 1 4 _,Uc 2 5 _,Uc 3 6 _,Uc 4 7 _,Uc 5 8 _,Uc 6 9 _,Uc 7 10 _,Uc 8 11 _,Uc 9 12 _,Uc 10 2 _] (.k (.t 10 .z)) ⟨mv,nH tr,mv,gd λh=>cy h,gd λh=>fS h,gd λh=>cy h,sK λh=>cy h,sK λh=>fS h,gd λh=>GO h,pk,mv,trivial⟩ (.d8 (.bp (.k .z))) λa w hI=>?_
 refine av ?_
 exact bW hI rfl cm
end Wx
