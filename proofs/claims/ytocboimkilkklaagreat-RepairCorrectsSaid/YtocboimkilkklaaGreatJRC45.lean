import Derived.Test.YtocboimkilkklaaGreatJRC26
import Derived.Test.YtocboimkilkklaaGreatJRC23
namespace Wx
open Go Go.RowKit Go.Proofs
end Wx

namespace Wx
open Go Go.RowKit Go.Proofs
end Wx

namespace Wx
open Go Go.RowKit Go.Proofs
end Wx

namespace Wx
end Wx

namespace Wx
end Wx

namespace Wx
end Wx

namespace Wx
end Wx

namespace Wx
open Go Go.RowKit Go.Proofs
def ej (l:List Rat):Nat->Rat
 |0=>l.getD 0 0
 |k+1=>if fD (l.getD k 0) (ej l k)<0 then l.getD k 0 else ej l k
def ee (l:List Rat):Nat->Rat
 |0=>l.getD 0 0
 |k+1=>if fD (l.getD k 0) (ee l k)>0 then l.getD k 0 else ee l k
theorem wC (x:Rat):fD x x=0:=dV rfl
theorem FD (l:List Rat):ej l 1=l.getD 0 0:=by unfold ej; rw[ej,wC]; rfl
theorem FC (l:List Rat):ee l 1=l.getD 0 0:=by unfold ee; rw[ee,wC]; rfl
variable {l:List Rat} {j:Nat}
theorem nC (hb:∀x∈l,bB j x) {k:Nat} (hk:k<l.length):bB j (l.getD k 0):=by
 rw[List.getD_eq_getElem?_getD,List.getElem?_eq_getElem hk]
 exact hb _ (List.getElem_mem hk)
theorem tf (hb:∀x∈l,bB j x) (h0:0<l.length):∀k,k<=l.length->bB j (ej l k):=by
 intro k
 induction k with
 |zero=>intro _; exact nC hb h0
 |succ k ih=>
  intro hk
  unfold ej
  split
  ·exact nC hb (by omega)
  ·exact ih (by omega)
theorem td (hb:∀x∈l,bB j x) (h0:0<l.length):∀k,k<=l.length->bB j (ee l k):=by
 intro k
 induction k with
 |zero=>intro _; exact nC hb h0
 |succ k ih=>
  intro hk
  unfold ee
  split
  ·exact nC hb (by omega)
  ·exact ih (by omega)
theorem kL (l:List Rat):∀k i,i<k->ej l k<=l.getD i 0:=by
 intro k
 induction k with
 |zero=>intro i h; omega
 |succ k ih=>
  intro i hi
  unfold ej
  by_cases h:fD (l.getD k 0) (ej l k)<0
  ·rw[if_pos h]
   have h1:l.getD k 0<ej l k:=by
    rcases Gm (l.getD k 0) (ej l k)with h2|h2|h2
    ·exact h2
    ·rw[dV h2]at h; omega
    ·rw[dW h2]at h; omega
   by_cases Bz:i=k
   ·rw[Bz]; exact Rat.le_refl
   ·have:=ih i (by omega); grind
  ·rw[if_neg h]
   by_cases Bz:i=k
   ·rw[Bz]
    rcases Gm (l.getD k 0) (ej l k)with h2|h2|h2
    ·rw[dK h2]at h; omega
    ·rw[h2]; exact Rat.le_refl
    ·grind
   ·exact ih i (by omega)
theorem kJ (l:List Rat):∀k i,i<k->l.getD i 0<=ee l k:=by
 intro k
 induction k with
 |zero=>intro i h; omega
 |succ k ih=>
  intro i hi
  unfold ee
  by_cases h:fD (l.getD k 0) (ee l k)>0
  ·rw[if_pos h]
   have h1:ee l k<l.getD k 0:=by
    rcases Gm (l.getD k 0) (ee l k)with h2|h2|h2
    ·rw[dK h2]at h; omega
    ·rw[dV h2]at h; omega
    ·exact h2
   by_cases Bz:i=k
   ·rw[Bz]; exact Rat.le_refl
   ·have:=ih i (by omega); grind
  ·rw[if_neg h]
   by_cases Bz:i=k
   ·rw[Bz]
    rcases Gm (l.getD k 0) (ee l k)with h2|h2|h2
    ·grind
    ·rw[h2]; exact Rat.le_refl
    ·rw[dW h2]at h; omega
   ·exact ih i (by omega)
theorem wZ (l:List Rat):∀k,∃i,i<=k/\(0<k->i<k)/\ej l k=l.getD i 0:=by
 intro k
 induction k with
 |zero=>exact⟨0,by omega,by omega,rfl⟩
 |succ k ih=>
  unfold ej
  split
  ·exact⟨k,by omega,by omega,rfl⟩
  ·obtain⟨i,h1,h2,h3⟩:=ih
   exact⟨i,by omega,by omega,h3⟩
theorem wX (l:List Rat):∀k,∃i,i<=k/\(0<k->i<k)/\ee l k=l.getD i 0:=by
 intro k
 induction k with
 |zero=>exact⟨0,by omega,by omega,rfl⟩
 |succ k ih=>
  unfold ee
  split
  ·exact⟨k,by omega,by omega,rfl⟩
  ·obtain⟨i,h1,h2,h3⟩:=ih
   exact⟨i,by omega,by omega,h3⟩
def jl (a b c d:Rat):Rat:=ej [a,b,c,d] 4
def jj (a b c d:Rat):Rat:=ee [a,b,c,d] 4
def min2 (a b:Rat):Rat:=ej [a,b] 2
def max2 (a b:Rat):Rat:=ee [a,b] 2
theorem jL {x y:Rat} (h:x=y):∀w v,aD x w v->aD y w v:=λ_ _ k=>h▸k
variable {a b c d:Rat}
theorem Tt (ha:bB j a) (hb:bB j b) (hc:bB j c) (hd:bB j d):∀x∈[a,b,c,d],bB j x:=by
 intro x hx
 simp only[List.mem_cons,List.not_mem_nil,or_false]at hx
 rcases hx with h|h|h|h<;>rw[h]<;>assumption
theorem Wi (ha:bB j a) (hb:bB j b):∀x∈[a,b],bB j x:=by
 intro x hx
 simp only[List.mem_cons,List.not_mem_nil,or_false]at hx
 rcases hx with h|h<;>rw[h]<;>assumption
theorem Kn (ha:bB j a) (hb:bB j b) (hc:bB j c) (hd:bB j d):bB j (jl a b c d):=tf (Tt ha hb hc hd) (by simp) 4 (by simp)
theorem Kl (ha:bB j a) (hb:bB j b) (hc:bB j c) (hd:bB j d):bB j (jj a b c d):=td (Tt ha hb hc hd) (by simp) 4 (by simp)
theorem Km (ha:bB j a) (hb:bB j b):bB j (min2 a b):=tf (Wi ha hb) (by simp) 2 (by simp)
theorem Kk (ha:bB j a) (hb:bB j b):bB j (max2 a b):=td (Wi ha hb) (by simp) 2 (by simp)
theorem G9 (x y:Rat):decide (fD x y<=0)=decide (x<=y):=decide_eq_decide.2 sw
end Wx

namespace Wx
open Go Go.RowKit
section
variable {P:Program} {ops:Array Oper} {ms:List Nat} {c:dS} {V:List Vr} {A:List Al} {G:List bf} {i:Nat}{d:Nat} {x y z:Operand} {ty:TypeId} {pos:String} {aJ:Array Edge}{t u:TypeId} {m:Int} {k:IntKind}
theorem MY {n:Int} (h1:Has ms G i x (bY (.int k m))) (h2:Has ms G i y (bY (.int k n))) (hp:Post G i (pB (m==n))):OpOk P ops ms c V A G i ⟨some d,.binOp .eql t x y u,ty,pos,aJ,none⟩:=fA h1 h2 (λ_=>by cases k<;>rfl) hp
theorem M6 {n:Int} (h1:Has ms G i x (bY (.int k m))) (h2:Has ms G i y (bY (.int k n))) (hp:Post G i (pB (m != n))):OpOk P ops ms c V A G i ⟨some d,.binOp .neq t x y u,ty,pos,aJ,none⟩:=fA h1 h2 (λ_=>by cases k<;>rfl) hp
theorem bl {o:Oper} (h:OpOk P ops ms c V A G i o:=by
 first
 |exact D9 hs hs (pt rfl)
 |exact D8 hs hs (pt rfl)
 |exact D6 hs hs (pt rfl)
 |exact D5 hs hs (pt rfl)
 |exact MY hs hs (pt rfl)
 |exact M6 hs hs (pt rfl)
 |exact D3 hs hs (pt rfl)
 |exact Eb hs hs (pt rfl)
 |exact Ea hs hs (pt rfl)):OpOk P ops ms c V A G i o:=h
variable {φ:Prop}
theorem X0 (hc:φ) {o:Oper} (h:φ->OpOk P ops ms c V A G i o:=by
 intro hc
 first
 |exact D9 hg hg (pg hc rfl)
 |exact D8 hg hg (pg hc rfl)
 |exact D6 hg hg (pg hc rfl)
 |exact D5 hg hg (pg hc rfl)
 |exact MY hg hg (pg hc rfl)
 |exact M6 hg hg (pg hc rfl)
 |exact D3 hg hg (pg hc rfl)
 |exact Eb hg hg (pg hc rfl)
 |exact Ea hg hg (pg hc rfl)):OpOk P ops ms c V A G i o:=h hc
theorem ye {j:Nat} {b:Bool} {op:Op} {dst:Option Nat} (h:OpOk P ops ms c V A G i ⟨dst,op,ty,pos,aJ,none⟩) (hq:iL j G=some (pB b):=by exact rfl) (hj:(G.all λe=>e.tag != some j||((ms.getD i 0).testBit j&&ij ms i e.till))=true:=by kernel_rfl):OpOk P ops ms c V A G i ⟨dst,op,ty,pos,aJ,some (j,b)⟩:=RQ hq rfl h hj
variable {n:Nat} {T:TypeId} {agg:Bool}
theorem Fs {s:Nat} {v:Vr} {al:Al} {fs:List Fd} {q:Pred} (ht:Ty P T agg n) (ha:JV ms i s A=some al:=by exact rfl) (hv:mh al.var V=some v:=by exact rfl) (ho:bS ms i v=true:=by exact rfl) (cI:v.kd=.ptr:=by exact rfl) (hst:(v.st.all λq=>(ms.getD i 0).testBit q.1||(ms.getD q.1 0).testBit i)=true:=by exact rfl) (Af:v.agg=true:=by exact rfl)
  (hc:cont (λj=>(ms.getD i 0).testBit j) v.c0 v.st=pv (pS fs):=by exact rfl) (hq:FO agg (vV fs al.off n)=some q:=by exact rfl) (hp:Post G i q:=by exact pt rfl) (hcd:al.cond:=by first|trivial|assumption) (hlen:decide (al.off+n<=v.n)=true:=by exact rfl):OpOk P ops ms c V A G i ⟨some d,.load T (.tmp s),ty,pos,aJ,none⟩:=
 mX ha hv ho cI hst hc ht (by rw[Af]; exact pM hq) hcd hp hlen
theorem TP (hφ:φ) {T:TypeId} {s n:Nat} {agg:Bool} {v:Vr} {al:Al} {fs:List Fd} {q:Pred} (ht:Ty P T agg n) (ha:JV ms i s A=some al:=by exact rfl) (hv:mh al.var V=some v:=by exact rfl) (ho:bS ms i v=true:=by exact rfl) (cI:v.kd=.ptr:=by exact rfl) (hst:(v.st.all λq=>(ms.getD i 0).testBit q.1||(ms.getD q.1 0).testBit i)=true:=by exact rfl) (Af:v.agg=true:=by exact rfl)
  (hc:cont (λj=>(ms.getD i 0).testBit j) v.c0 v.st=pv (pS fs):=by exact rfl) (hq:FO agg (vV fs al.off n)=some q:=by exact rfl) (hp:iL i G=some (nW φ q):=by exact rfl) (hcd:al.cond:=by first|trivial|assumption) (hlen:decide (al.off+n<=v.n)=true:=by exact rfl):OpOk P ops ms c V A G i ⟨some d,.load T (.tmp s),ty,pos,aJ,none⟩:=
 mX ha hv ho cI hst hc ht (by rw[Af]; exact pM hq) hcd (Vx hφ hp) hlen
variable {E:TypeId} {sz:Nat}
theorem Xa {f:Nat->Pred} (ht:mw P T E sz) (h:Has ms G i x (bR sz agg n f):=by exact hs) (hy:Has ms G i y (pI m):=by exact hs) (hp:Post G i (dU sz agg (f m.toNat)):=by exact pt rfl) (h0:0<=m:=by omega) (h1:m<n:=by omega) (hA:(A.all λq=>q.tag != some i)=true:=by kernel_rfl):OpOk P ops ms c V A G i ⟨some d,.indexAddr T x y,ty,pos,aJ,none⟩:=mZ h hy ht h0 h1 hA hp
theorem SM {k:Nat} {f:Nat->Pred} (ht:mw P T E sz) (h:Has ms G i x (bR sz agg n f):=by exact hs) (hy:Has ms G i y (pI (k:Int)):=by exact hs) (hp:Post G i (dU sz agg (f k)):=by exact pt rfl) (h1:k<n:=by omega) (hA:(A.all λq=>q.tag != some i)=true:=by kernel_rfl):OpOk P ops ms c V A G i ⟨some d,.indexAddr T x y,ty,pos,aJ,none⟩:=mZ h hy ht (by omega) (by omega) hA (by rw[Int.toNat_natCast]; exact hp)
variable {f:FuncId} {ts:Array TypeId} {p p1:Pred}
theorem ce1 (hn:au p) (hc:∀w v1,p1 w v1->Calls P f #[v1] w (ew p w)) (h1:Has ms G i x p1:=by exact hs) (hp:Post G i p:=by exact pt rfl) (hf:aI P f:=by exactλ_ _=>by kernel_rfl):OpOk P ops ms c V A G i ⟨some d,.call ⟨.value (.func f),#[x],ts⟩,ty,pos,aJ,none⟩:=gB hf hn h1 hp hc
variable {p2:Pred}
theorem P0 (hn:au p) (hc:∀w v1 v2,p1 w v1->p2 w v2->Calls P f #[v1,v2] w (ew p w)) (h1:Has ms G i x p1:=by exact hs) (h2:Has ms G i y p2:=by exact hs) (hp:Post G i p:=by exact pt rfl) (hf:aI P f:=by exactλ_ _=>by kernel_rfl):OpOk P ops ms c V A G i ⟨some d,.call ⟨.value (.func f),#[x,y],ts⟩,ty,pos,aJ,none⟩:=cD hf hn h1 h2 hp hc
theorem TA (hc:∀M w v1,dz M w->aP M (λw=>p1 w v1) w->Calls P f #[v1] w (bE M p w)) (h1:Has ms G i x p1:=by exact hs) (hp:Post G i p:=by exact pt rfl) (hf:aI P f:=by exactλ_ _=>by kernel_rfl):OpOk P ops ms c V A G i ⟨some d,.call ⟨.value (.func f),#[x],ts⟩,ty,pos,aJ,none⟩:=xk hf h1 hp hc
theorem Sk (hc:∀M w v1 v2,dz M w->aP M (λw=>p1 w v1) w->aP M (λw=>p2 w v2) w->Calls P f #[v1,v2] w (bE M p w)) (h1:Has ms G i x p1:=by exact hs) (h2:Has ms G i y p2:=by exact hs) (hp:Post G i p:=by exact pt rfl) (hf:aI P f:=by exactλ_ _=>by kernel_rfl):OpOk P ops ms c V A G i ⟨some d,.call ⟨.value (.func f),#[x,y],ts⟩,ty,pos,aJ,none⟩:=qL hf h1 h2 hp hc
theorem TK (hφ:φ) {f:FuncId} {ts:Array TypeId} {p p1 p2:Pred} (hn:au p) (hc:∀w v1 v2,p1 w v1->p2 w v2->Calls P f #[v1,v2] w (ew p w)) (h1:Has ms G i x p1:=by exact hg) (h2:Has ms G i y p2:=by exact hg) (hp:iL i G=some (nW φ p):=by exact rfl) (hf:aI P f:=by exactλ_ _=>by kernel_rfl):OpOk P ops ms c V A G i ⟨some d,.call ⟨.value (.func f),#[x,y],ts⟩,ty,pos,aJ,none⟩:=cD hf hn h1 h2 (Vx hφ hp) hc
end
end Wx

namespace Wx
attribute [local irreducible] OpOk
set_option maxRecDepth 100000
open Go Go.RowKit Go.Proofs
set_option linter.unusedVariables false
variable {l:List Rat} {j:Nat}
theorem NV (h0:0<l.length) (hn:l.length<=1000000000) (hb:∀x∈l,bB j x) (hj:j+j<=100000000):∀(M:Nat->Nat->Prop) (w:World) (v0 v1:Value),dz M w->aP M (λw=>(pY l) w v0) w->aP M (λw=>(bY (.func (.func 46) #[] #[])) w v1) w->Calls Tryz.prog 117 #[v0,v1] w (bE M (aD (ej l l.length)) w):=by
 intro M w0 v0 v1 hM hv0 iK
 refine bD (N:=33) Tryz.func117 rfl rfl rfl hM (show cQ M w0 [v0,v1] [⟨none,none,0,pY l⟩,⟨none,none,1,bY (.func (.func 46) #[] #[])⟩]from⟨⟨rfl,_,rfl,hv0⟩,⟨rfl,_,rfl,iK⟩,trivial⟩) λa hI=>?_
 refine mg hI 1 [⟨4,4,some 0,none,.ptr,32,3,true,pv (aD 0),[]⟩] [] [] .z (.kk .z) ⟨ct 0 rfl rfl (by kernel_rfl) (by kernel_rfl) rfl rfl rfl iw rfl rfl (by simp[gm]) rfl (λw=>cU w),trivial⟩ (.k .z) (.kk .z) λa w hI=>?_
 refine wp_seq ?_
 refine mg hI 3 [] [] [Uc 0 7 _,Uc 1 8 (pI (l.length:Int)),Uc 2 9 (pB false)] (.k .z) (.kk .z) ⟨mv,uw (.tmp 2 rfl rfl) (en).under (.here 3 rfl),fA (v:=.bool (decide ((l.length:Int)<(1:Int)))) (.tmp 3 rfl rfl) (.const _) (λ_=>rfl) (.at_ 4 _ _ rfl (jK (decide_eq_false (by omega)))),trivial⟩ (.k .z) (.eT (.k .z)) λa w hI=>?_
 refine Dv hI 2 rfl ?_
 refine wp_skip ?_
 refine af ?_
 refine mg hI 5 [⟨5,5,some 3,none,.ptr,32,3,true,pv (aD 0),[(4,pv (aD (l.getD 0 0)))]⟩] [] [Uc 0 11 _,Uc 1 12 _,Uc 2 13 (aD (l.getD 0 0))] (.k .z) (.dF .z) ⟨mv,Xa en,jt (.tmp 4 rfl rfl) aK (bg _) (.here 5 rfl),ct 1 rfl rfl (by kernel_rfl) (by kernel_rfl) rfl rfl rfl iw rfl rfl (by simp[gm]) rfl (λw=>cU w),bG 1 rfl rfl rfl rfl 0 rfl (by kernel_rfl) (by kernel_rfl) aK (.tmp 5 rfl rfl) (bg _),trivial⟩ (.k (.s .o .z)) (.eT (.dd .z)) λa w hI=>?_
 refine wp_seq ?_
 refine mg hI 1 [] [] [Uc 0 6 _] (.k (.k .z)) (.kk .z) ⟨mv,trivial⟩ (.k (.k .z)) (.dF .z) λa w hI=>?_
 refine wp_block ?_
 refine uZ (λ(k:Nat) a w=>(1<=k/\k<=l.length)/\Inv ⟨33,w0,M,λ_=>False⟩ [⟨4,4,none,none,.ptr,32,3,true,pv (aD 0),[]⟩,⟨5,5,none,none,.ptr,32,3,true,pv (aD (ej l k)),[]⟩] [] [⟨none,none,0,pY l⟩,⟨none,none,1,bY (.func (.func 46) #[] #[])⟩,⟨none,none,6,pI (k:Int)⟩] none_ a w) (λ(k:Nat)=>l.length-k) (1) ⟨⟨Nat.le_refl _,h0⟩,(hI.conv ⟨⟨0,_,_,rfl,⟨rfl,rfl,rfl⟩,rfl,λ_=>λ_ _ h=>h⟩,⟨1,_,_,rfl,⟨rfl,rfl,rfl⟩,rfl,λ_=>(jL (FD l).symm)⟩,trivial⟩ ⟨⟨rfl,rfl,0,_,rfl,λ_ _ h=>h⟩,⟨rfl,rfl,1,_,rfl,λ_ _ h=>h⟩,⟨rfl,rfl,2,_,rfl,(dB (by omega))⟩,trivial⟩)⟩ ?_
 intro k a w TW
 obtain⟨hp,hI⟩:=TW
 refine wp_seq ?_
 refine mg hI 4 [] [] [Uc 0 14 _,Uc 1 15 _,Uc 2 16 (pI (l.length:Int)),Uc 3 17 _] (.k (.k .z)) (.dF .z) ⟨mv,mv,uw (.tmp 4 rfl rfl) (en).under (.here 5 rfl),bl,trivial⟩ (.k (.k .z)) (.aA (.dF .z)) λa w hI=>?_
 refine gR hI 6 rfl (λht=>?_) (λht=>?_)
 ·have t1:=of_decide_eq_true ht
  refine wp_skip ?_
  refine af ?_
  refine wp_seq ?_
  refine wp_block ?_
  refine SQ hI [0,0,0,6,14,0,63,127] [] [] [Uc 0 20 _,Uc 1 21 _,Uc 2 22 _,Uc 3 23 _,Uc 4 24 (aD (l.getD k 0)),Uc 5 25 (aD (ej l k)),Uc 6 26 (pI (fD (l.getD k 0) (ej l k))),Uc 7 27 _] (.k (.k .z)) (.aA (.dF .z)) ⟨mv,mv,mv,SM en,jt (.tmp 10 rfl rfl) aK (bg _) (.here 11 rfl),bX 1 rfl rfl rfl rfl (by kernel_rfl) aK rfl (.here 12 rfl),xm (λ_ _=>by kernel_rfl) (.tmp 7 rfl rfl) (.tmp 11 rfl rfl) (.tmp 12 rfl rfl) (.here 13 rfl) (PT (bu _) (Dm (nC hb (by omega)) (tf hb h0 _ (by omega)) (by omega))),bl,trivial⟩ (.k (.k .z)) (.k8 (.aA (.dF .z))) λa w hI=>?_
  refine gR hI 14 rfl (λht=>?_) (λht=>?_)
  ·have t2:=of_decide_eq_true ht
   refine PE hI 5 [] [] [Uc 0 28 _,Uc 1 29 _,Uc 2 30 _,Uc 3 31 (aD (l.getD k 0))] (.k (.u none [(4,pv (aD (l.getD k 0)))] .z)) (.k8 (.aA (.dF .z))) ⟨mv,mv,SM en,jt (.tmp 17 rfl rfl) aK (bg _) (.here 18 rfl),bG 1 rfl rfl rfl rfl 0 rfl (by kernel_rfl) (by kernel_rfl) aK (.tmp 18 rfl rfl) (bg _),trivial⟩ (.k (.s .o .z)) (.k8 (.k8 (.dF .z))) λa w hI=>?_
   refine bz ?_
   refine af ?_
   refine PE hI 3 [] [] [Uc 0 18 _,Uc 1 19 _,Uc 2 6 _] (.k (.k .z)) (.kk (.t 2 (.k8 (.k8 .z)))) ⟨mv,bl,mv,trivial⟩ (.k (.k .z)) (.mP (.k8 (.k8 (.kk .z)))) λa w hI=>?_
   refine af ?_
   exact⟨k+1,⟨⟨by omega,by omega⟩,(hI.conv ⟨⟨0,_,_,rfl,⟨rfl,rfl,rfl⟩,rfl,λ_=>λ_ _ h=>h⟩,⟨1,_,_,rfl,⟨rfl,rfl,rfl⟩,rfl,λ_=>(jL (by show _=if _ then _ else _; rw[if_pos t2]))⟩,trivial⟩ ⟨⟨rfl,rfl,0,_,rfl,λ_ _ h=>h⟩,⟨rfl,rfl,1,_,rfl,λ_ _ h=>h⟩,⟨rfl,rfl,20,_,rfl,(dB (by omega))⟩,trivial⟩)⟩,(show l.length-(k+1)<l.length-k by omega)⟩
  ·have t3:=of_decide_eq_false ht
   refine wp_skip ?_
   refine bz ?_
   refine af ?_
   refine PE hI 3 [] [] [Uc 0 18 _,Uc 1 19 _,Uc 2 6 _] (.k (.k .z)) (.kk (.t 2 (.k8 (.aA .z)))) ⟨mv,bl,mv,trivial⟩ (.k (.k .z)) (.mP (.k8 (.aA (.kk .z)))) λa w hI=>?_
   refine af ?_
   exact⟨k+1,⟨⟨by omega,by omega⟩,(hI.conv ⟨⟨0,_,_,rfl,⟨rfl,rfl,rfl⟩,rfl,λ_=>λ_ _ h=>h⟩,⟨1,_,_,rfl,⟨rfl,rfl,rfl⟩,rfl,λ_=>(jL (by show _=if _ then _ else _; rw[if_neg t3]))⟩,trivial⟩ ⟨⟨rfl,rfl,0,_,rfl,λ_ _ h=>h⟩,⟨rfl,rfl,1,_,rfl,λ_ _ h=>h⟩,⟨rfl,rfl,16,_,rfl,(dB (by omega))⟩,trivial⟩)⟩,(show l.length-(k+1)<l.length-k by omega)⟩
 ·have t4:=of_decide_eq_false ht
  refine wp_exit ?_
  refine aL ?_
  refine aL ?_
  refine bM ?_
  refine af ?_
  refine mg hI 2 [] [] [Uc 0 32 (aD (ej l k))] (.u none [(1,pv (aD (ej l k)))] (.k .z)) (.aA (.dF .z)) ⟨bX 1 rfl rfl rfl rfl (by kernel_rfl) aK rfl (.here 7 rfl),bG 0 rfl rfl rfl rfl 0 rfl (by kernel_rfl) (by kernel_rfl) aK (.tmp 7 rfl rfl) (bg _),trivial⟩ (.s .o (.k .z)) (.d8 .z) λa w hI=>?_
  refine wp_ret ?_
  exact dD hI rfl (.imp (.cell 0 rfl rfl rfl rfl aK rfl) (jL (by rw[show k=l.length by omega])))
theorem NU (h0:0<l.length) (hn:l.length<=1000000000) (hb:∀x∈l,bB j x) (hj:j+j<=100000000):∀(M:Nat->Nat->Prop) (w:World) (v0 v1:Value),dz M w->aP M (λw=>(pY l) w v0) w->aP M (λw=>(bY (.func (.func 46) #[] #[])) w v1) w->Calls Tryz.prog 118 #[v0,v1] w (bE M (aD (ee l l.length)) w):=by
 intro M w0 v0 v1 hM hv0 iK
 refine bD (N:=33) Tryz.func118 rfl rfl rfl hM (show cQ M w0 [v0,v1] [⟨none,none,0,pY l⟩,⟨none,none,1,bY (.func (.func 46) #[] #[])⟩]from⟨⟨rfl,_,rfl,hv0⟩,⟨rfl,_,rfl,iK⟩,trivial⟩) λa hI=>?_
 refine mg hI 1 [⟨4,4,some 0,none,.ptr,32,3,true,pv (aD 0),[]⟩] [] [] .z (.kk .z) ⟨ct 0 rfl rfl (by kernel_rfl) (by kernel_rfl) rfl rfl rfl iw rfl rfl (by simp[gm]) rfl (λw=>cU w),trivial⟩ (.k .z) (.kk .z) λa w hI=>?_
 refine wp_seq ?_
 refine mg hI 3 [] [] [Uc 0 7 _,Uc 1 8 (pI (l.length:Int)),Uc 2 9 (pB false)] (.k .z) (.kk .z) ⟨mv,uw (.tmp 2 rfl rfl) (en).under (.here 3 rfl),fA (v:=.bool (decide ((l.length:Int)<(1:Int)))) (.tmp 3 rfl rfl) (.const _) (λ_=>rfl) (.at_ 4 _ _ rfl (jK (decide_eq_false (by omega)))),trivial⟩ (.k .z) (.eT (.k .z)) λa w hI=>?_
 refine Dv hI 2 rfl ?_
 refine wp_skip ?_
 refine af ?_
 refine mg hI 5 [⟨5,5,some 3,none,.ptr,32,3,true,pv (aD 0),[(4,pv (aD (l.getD 0 0)))]⟩] [] [Uc 0 11 _,Uc 1 12 _,Uc 2 13 (aD (l.getD 0 0))] (.k .z) (.dF .z) ⟨mv,Xa en,jt (.tmp 4 rfl rfl) aK (bg _) (.here 5 rfl),ct 1 rfl rfl (by kernel_rfl) (by kernel_rfl) rfl rfl rfl iw rfl rfl (by simp[gm]) rfl (λw=>cU w),bG 1 rfl rfl rfl rfl 0 rfl (by kernel_rfl) (by kernel_rfl) aK (.tmp 5 rfl rfl) (bg _),trivial⟩ (.k (.s .o .z)) (.eT (.dd .z)) λa w hI=>?_
 refine wp_seq ?_
 refine mg hI 1 [] [] [Uc 0 6 _] (.k (.k .z)) (.kk .z) ⟨mv,trivial⟩ (.k (.k .z)) (.dF .z) λa w hI=>?_
 refine wp_block ?_
 refine uZ (λ(k:Nat) a w=>(1<=k/\k<=l.length)/\Inv ⟨33,w0,M,λ_=>False⟩ [⟨4,4,none,none,.ptr,32,3,true,pv (aD 0),[]⟩,⟨5,5,none,none,.ptr,32,3,true,pv (aD (ee l k)),[]⟩] [] [⟨none,none,0,pY l⟩,⟨none,none,1,bY (.func (.func 46) #[] #[])⟩,⟨none,none,6,pI (k:Int)⟩] none_ a w) (λ(k:Nat)=>l.length-k) (1) ⟨⟨Nat.le_refl _,h0⟩,(hI.conv ⟨⟨0,_,_,rfl,⟨rfl,rfl,rfl⟩,rfl,λ_=>λ_ _ h=>h⟩,⟨1,_,_,rfl,⟨rfl,rfl,rfl⟩,rfl,λ_=>(jL (FC l).symm)⟩,trivial⟩ ⟨⟨rfl,rfl,0,_,rfl,λ_ _ h=>h⟩,⟨rfl,rfl,1,_,rfl,λ_ _ h=>h⟩,⟨rfl,rfl,2,_,rfl,(dB (by omega))⟩,trivial⟩)⟩ ?_
 intro k a w TW
 obtain⟨hp,hI⟩:=TW
 refine wp_seq ?_
 refine mg hI 4 [] [] [Uc 0 14 _,Uc 1 15 _,Uc 2 16 (pI (l.length:Int)),Uc 3 17 _] (.k (.k .z)) (.dF .z) ⟨mv,mv,uw (.tmp 4 rfl rfl) (en).under (.here 5 rfl),bl,trivial⟩ (.k (.k .z)) (.aA (.dF .z)) λa w hI=>?_
 refine gR hI 6 rfl (λht=>?_) (λht=>?_)
 ·have t1:=of_decide_eq_true ht
  refine wp_skip ?_
  refine af ?_
  refine wp_seq ?_
  refine wp_block ?_
  refine SQ hI [0,0,0,6,14,0,63,127] [] [] [Uc 0 20 _,Uc 1 21 _,Uc 2 22 _,Uc 3 23 _,Uc 4 24 (aD (l.getD k 0)),Uc 5 25 (aD (ee l k)),Uc 6 26 (pI (fD (l.getD k 0) (ee l k))),Uc 7 27 _] (.k (.k .z)) (.aA (.dF .z)) ⟨mv,mv,mv,SM en,jt (.tmp 10 rfl rfl) aK (bg _) (.here 11 rfl),bX 1 rfl rfl rfl rfl (by kernel_rfl) aK rfl (.here 12 rfl),xm (λ_ _=>by kernel_rfl) (.tmp 7 rfl rfl) (.tmp 11 rfl rfl) (.tmp 12 rfl rfl) (.here 13 rfl) (PT (bu _) (Dm (nC hb (by omega)) (td hb h0 _ (by omega)) (by omega))),bl,trivial⟩ (.k (.k .z)) (.k8 (.aA (.dF .z))) λa w hI=>?_
  refine gR hI 14 rfl (λht=>?_) (λht=>?_)
  ·have t2:=of_decide_eq_true ht
   refine PE hI 5 [] [] [Uc 0 28 _,Uc 1 29 _,Uc 2 30 _,Uc 3 31 (aD (l.getD k 0))] (.k (.u none [(4,pv (aD (l.getD k 0)))] .z)) (.k8 (.aA (.dF .z))) ⟨mv,mv,SM en,jt (.tmp 17 rfl rfl) aK (bg _) (.here 18 rfl),bG 1 rfl rfl rfl rfl 0 rfl (by kernel_rfl) (by kernel_rfl) aK (.tmp 18 rfl rfl) (bg _),trivial⟩ (.k (.s .o .z)) (.k8 (.k8 (.dF .z))) λa w hI=>?_
   refine bz ?_
   refine af ?_
   refine PE hI 3 [] [] [Uc 0 18 _,Uc 1 19 _,Uc 2 6 _] (.k (.k .z)) (.kk (.t 2 (.k8 (.k8 .z)))) ⟨mv,bl,mv,trivial⟩ (.k (.k .z)) (.mP (.k8 (.k8 (.kk .z)))) λa w hI=>?_
   refine af ?_
   exact⟨k+1,⟨⟨by omega,by omega⟩,(hI.conv ⟨⟨0,_,_,rfl,⟨rfl,rfl,rfl⟩,rfl,λ_=>λ_ _ h=>h⟩,⟨1,_,_,rfl,⟨rfl,rfl,rfl⟩,rfl,λ_=>(jL (by show _=if _ then _ else _; rw[if_pos t2]))⟩,trivial⟩ ⟨⟨rfl,rfl,0,_,rfl,λ_ _ h=>h⟩,⟨rfl,rfl,1,_,rfl,λ_ _ h=>h⟩,⟨rfl,rfl,20,_,rfl,(dB (by omega))⟩,trivial⟩)⟩,(show l.length-(k+1)<l.length-k by omega)⟩
  ·have t3:=of_decide_eq_false ht
   refine wp_skip ?_
   refine bz ?_
   refine af ?_
   refine PE hI 3 [] [] [Uc 0 18 _,Uc 1 19 _,Uc 2 6 _] (.k (.k .z)) (.kk (.t 2 (.k8 (.aA .z)))) ⟨mv,bl,mv,trivial⟩ (.k (.k .z)) (.mP (.k8 (.aA (.kk .z)))) λa w hI=>?_
   refine af ?_
   exact⟨k+1,⟨⟨by omega,by omega⟩,(hI.conv ⟨⟨0,_,_,rfl,⟨rfl,rfl,rfl⟩,rfl,λ_=>λ_ _ h=>h⟩,⟨1,_,_,rfl,⟨rfl,rfl,rfl⟩,rfl,λ_=>(jL (by show _=if _ then _ else _; rw[if_neg t3]))⟩,trivial⟩ ⟨⟨rfl,rfl,0,_,rfl,λ_ _ h=>h⟩,⟨rfl,rfl,1,_,rfl,λ_ _ h=>h⟩,⟨rfl,rfl,16,_,rfl,(dB (by omega))⟩,trivial⟩)⟩,(show l.length-(k+1)<l.length-k by omega)⟩
 ·have t4:=of_decide_eq_false ht
  refine wp_exit ?_
  refine aL ?_
  refine aL ?_
  refine bM ?_
  refine af ?_
  refine mg hI 2 [] [] [Uc 0 32 (aD (ee l k))] (.u none [(1,pv (aD (ee l k)))] (.k .z)) (.aA (.dF .z)) ⟨bX 1 rfl rfl rfl rfl (by kernel_rfl) aK rfl (.here 7 rfl),bG 0 rfl rfl rfl rfl 0 rfl (by kernel_rfl) (by kernel_rfl) aK (.tmp 7 rfl rfl) (bg _),trivial⟩ (.s .o (.k .z)) (.d8 .z) λa w hI=>?_
  refine wp_ret ?_
  exact dD hI rfl (.imp (.cell 0 rfl rfl rfl rfl aK rfl) (jL (by rw[show k=l.length by omega])))
theorem ES (h0:0<l.length) (hn:l.length<=1000000000) (hb:∀x∈l,bB j x) (hj:j+j<=100000000):∀(M:Nat->Nat->Prop) (w:World) (v0:Value),dz M w->aP M (λw=>(pY l) w v0) w->Calls Tryz.prog 76 #[v0] w (bE M (di (ej l l.length) (ee l l.length)) w):=by
 intro M w0 v0 hM hv0
 refine bD (N:=8) Tryz.func76 rfl rfl rfl hM (show cQ M w0 [v0] [⟨none,none,0,pY l⟩]from⟨⟨rfl,_,rfl,hv0⟩,trivial⟩) λa hI=>?_
 refine mg hI 1 [⟨2,2,some 0,none,.ptr,43,6,true,pv (di 0 0),[]⟩] [] [] .z (.k .z) ⟨ct 0 rfl rfl (by kernel_rfl) (by kernel_rfl) rfl rfl rfl vf rfl rfl (by simp[gm]) rfl (λw=>AV (gX w)),trivial⟩ (.k .z) (.k .z) λa w hI=>?_
 refine mg hI 6 [] [] [Uc 0 3 _,Uc 1 4 _,Uc 2 5 _,Uc 3 6 _,Uc 4 7 (di (ej l l.length) (ee l l.length))] (.u none [(5,pv (di (ej l l.length) (ee l l.length)))] .z) (.k .z) ⟨mv,Sk (NV (j:=j) h0 hn hb hj),mv,Sk (NU (j:=j) h0 hn hb hj),pX (fs:=[⟨true,3,aD 0⟩,⟨true,3,aD 0⟩]) (ps:=[(0,aD (ej l l.length)),(1,aD (ee l l.length))]) zC (nN (by kernel_rfl)) (gX) (show cA _ _ _ _ _ _ from⟨⟨rfl,(.tmp 2 rfl rfl),_,rfl,bg _⟩,⟨rfl,(.tmp 4 rfl rfl),_,rfl,bg _⟩,trivial⟩) rfl (.here 5 rfl),bG 0 rfl rfl rfl rfl 0 rfl (by kernel_rfl) (by kernel_rfl) iu (.tmp 5 rfl rfl) (fg _ _),trivial⟩ (.s .o .z) (.dO (.dd .z)) λa w hI=>?_
 refine wp_ret ?_
 exact dD hI rfl (.cell 0 rfl rfl rfl rfl iu rfl)
theorem Ky (a1:Rat):∀(M:Nat->Nat->Prop) (w:World) (v0:Value),dz M w->aP M (λw=>(aD a1) w v0) w->Calls Tryz.prog 34 #[v0] w (bE M (di a1 a1) w):=by
 intro M w0 v0 hM hv0
 refine bD (N:=6) Tryz.func34 rfl rfl rfl hM (show cQ M w0 [v0] [⟨none,none,0,aD a1⟩]from⟨⟨rfl,_,rfl,hv0⟩,trivial⟩) λa hI=>?_
 refine mg hI 2 [⟨1,1,some 0,none,.ptr,32,3,true,pv (aD a1),[]⟩,⟨2,2,some 1,none,.ptr,43,6,true,pv (di 0 0),[]⟩] [] [] .z (.k .z) ⟨dQ 0 rfl rfl (by kernel_rfl) (by kernel_rfl) rfl rfl rfl (.tmp 0 rfl rfl) (bg _) rfl,ct 1 rfl rfl (by kernel_rfl) (by kernel_rfl) rfl rfl rfl vf rfl rfl (by simp[gm]) rfl (λw=>AV (gX w)),trivial⟩ (.k (.k .z)) (.d .z) λa w hI=>?_
 refine mg hI 4 [] [] [Uc 0 3 (aD a1),Uc 1 4 (aD a1),Uc 2 5 (di a1 a1)] (.k (.u none [(3,pv (di a1 a1))] .z)) .z ⟨bX 0 rfl rfl rfl rfl (by kernel_rfl) aK rfl (.here 0 rfl),bX 0 rfl rfl rfl rfl (by kernel_rfl) aK rfl (.here 1 rfl),pX (fs:=[⟨true,3,aD 0⟩,⟨true,3,aD 0⟩]) (ps:=[(0,aD a1),(1,aD a1)]) zC (nN (by kernel_rfl)) (gX) (show cA _ _ _ _ _ _ from⟨⟨rfl,(.tmp 0 rfl rfl),_,rfl,bg _⟩,⟨rfl,(.tmp 1 rfl rfl),_,rfl,bg _⟩,trivial⟩) rfl (.here 2 rfl),bG 1 rfl rfl rfl rfl 0 rfl (by kernel_rfl) (by kernel_rfl) iu (.tmp 2 rfl rfl) (fg _ _),trivial⟩ (.k (.s .o .z)) (.Kz .z) λa w hI=>?_
 refine wp_ret ?_
 exact dD hI rfl (.cell 1 rfl rfl rfl rfl iu rfl)
theorem Qa (a1 a2:Rat):∀(M:Nat->Nat->Prop) (w:World) (v0:Value),dz M w->aP M (λw=>(di a1 a2) w v0) w->Calls Tryz.prog 44 #[v0] w (bE M (aD a1) w):=by
 intro M w0 v0 hM hv0
 refine bD (N:=5) Tryz.func44 rfl rfl rfl hM (show cQ M w0 [v0] [⟨none,none,0,di a1 a2⟩]from⟨⟨rfl,_,rfl,hv0⟩,trivial⟩) λa hI=>?_
 refine mg hI 2 [⟨1,1,some 0,none,.ptr,43,6,true,pv (di a1 a2),[]⟩,⟨2,2,some 1,none,.ptr,32,3,true,pv (aD 0),[]⟩] [] [] .z (.k .z) ⟨dQ 0 rfl rfl (by kernel_rfl) (by kernel_rfl) rfl rfl rfl (.tmp 0 rfl rfl) (fg _ _) rfl,ct 1 rfl rfl (by kernel_rfl) (by kernel_rfl) rfl rfl rfl iw rfl rfl (by simp[gm]) rfl (λw=>cU w),trivial⟩ (.k (.k .z)) (.d .z) λa w hI=>?_
 refine mg hI 3 [] [⟨some 0,3,1,0,True⟩] [Uc 1 4 _] (.k (.u none [(2,pv (aD a1))] .z)) .z ⟨aX 0 rfl rfl rfl 0 rfl rfl rfl rfl (.inl ⟨rfl,rfl⟩) rfl (by kernel_rfl) (λb w=>lu b 0 w),Fs aK,bG 1 rfl rfl rfl rfl 0 rfl (by kernel_rfl) (by kernel_rfl) aK (.tmp 0 rfl rfl) (bg _),trivial⟩ (.k (.s .o .z)) (.d .z) λa w hI=>?_
 refine wp_ret ?_
 exact dD hI rfl (.cell 1 rfl rfl rfl rfl aK rfl)
theorem P9 (a1 a2:Rat):∀(M:Nat->Nat->Prop) (w:World) (v0:Value),dz M w->aP M (λw=>(di a1 a2) w v0) w->Calls Tryz.prog 45 #[v0] w (bE M (aD a2) w):=by
 intro M w0 v0 hM hv0
 refine bD (N:=5) Tryz.func45 rfl rfl rfl hM (show cQ M w0 [v0] [⟨none,none,0,di a1 a2⟩]from⟨⟨rfl,_,rfl,hv0⟩,trivial⟩) λa hI=>?_
 refine mg hI 2 [⟨1,1,some 0,none,.ptr,43,6,true,pv (di a1 a2),[]⟩,⟨2,2,some 1,none,.ptr,32,3,true,pv (aD 0),[]⟩] [] [] .z (.k .z) ⟨dQ 0 rfl rfl (by kernel_rfl) (by kernel_rfl) rfl rfl rfl (.tmp 0 rfl rfl) (fg _ _) rfl,ct 1 rfl rfl (by kernel_rfl) (by kernel_rfl) rfl rfl rfl iw rfl rfl (by simp[gm]) rfl (λw=>cU w),trivial⟩ (.k (.k .z)) (.d .z) λa w hI=>?_
 refine mg hI 3 [] [⟨some 0,3,1,3,True⟩] [Uc 1 4 _] (.k (.u none [(2,pv (aD a2))] .z)) .z ⟨aX 0 rfl rfl rfl 0 rfl rfl rfl rfl (.inl ⟨rfl,rfl⟩) rfl (by kernel_rfl) (λb w=>lz b 0 w),Fs aK,bG 1 rfl rfl rfl rfl 0 rfl (by kernel_rfl) (by kernel_rfl) aK (.tmp 0 rfl rfl) (bg _),trivial⟩ (.k (.s .o .z)) (.d .z) λa w hI=>?_
 refine wp_ret ?_
 exact dD hI rfl (.cell 1 rfl rfl rfl rfl aK rfl)
variable {a1 a2:Rat}
theorem NT {y:Rat} {k:Nat} (ha:bB j a1/\bB j a2) (hy:bB k y) (hj:j+k<=100000000):∀(M:Nat->Nat->Prop) (w:World) (v0 v1:Value),dz M w->aP M (λw=>(di a1 a2) w v0) w->aP M (λw=>(aD y) w v1) w->Calls Tryz.prog 12 #[v0,v1] w (bE M (pB (decide (a1<=y)&&decide (y<=a2))) w):=by
 intro M w0 v0 v1 hM hv0 iK
 refine bD (N:=17) Tryz.func12 rfl rfl rfl hM (show cQ M w0 [v0,v1] [⟨none,none,0,di a1 a2⟩,⟨none,none,1,aD y⟩]from⟨⟨rfl,_,rfl,hv0⟩,⟨rfl,_,rfl,iK⟩,trivial⟩) λa hI=>?_
 refine mg hI 3 [⟨2,2,some 0,none,.ptr,43,6,true,pv (di a1 a2),[]⟩,⟨3,3,some 1,none,.ptr,32,3,true,pv (aD y),[]⟩] [] [Uc 2 4 _] .z (.kk .z) ⟨dQ 0 rfl rfl (by kernel_rfl) (by kernel_rfl) rfl rfl rfl (.tmp 0 rfl rfl) (fg _ _) rfl,dQ 1 rfl rfl (by kernel_rfl) (by kernel_rfl) rfl rfl rfl (.tmp 1 rfl rfl) (bg _) rfl,mv,trivial⟩ (.k (.k .z)) (.ya .z) λa w hI=>?_
 refine mg hI 13 [] [⟨some 0,5,2,0,True⟩,⟨some 7,12,2,3,(decide ((fD a1 y)<=(0:Int)))=true⟩] [Uc 1 6 _,Uc 2 7 (aD y),Uc 3 8 _,Uc 4 9 _,Uc 5 10 _,Uc 6 11 (nW ((decide ((fD a1 y)<=(0:Int)))=true) (aD y)),Uc 8 13 _,Uc 9 14 _,Uc 10 15 _,Uc 11 16 _,Uc 12 4 _] (.k (.k .z)) (.t 12 .z) ⟨aX 0 rfl rfl rfl 0 rfl rfl rfl rfl (.inl ⟨rfl,rfl⟩) rfl (by kernel_rfl) (λb w=>lu b 0 w),Fs aK,bX 1 rfl rfl rfl rfl (by kernel_rfl) aK rfl (.here 2 rfl),P0 (bu _) (Dm ha.1 hy (by omega)),bl,mv,I6 5 rfl rfl (λhc=>bX 1 rfl rfl rfl rfl (by kernel_rfl) aK rfl (.Pg hc 6 rfl)) (by kernel_rfl) (λ_=>.none (by kernel_rfl)) (λhc=>.JA hc 6 rfl),I6 5 rfl rfl (λhc=>aX 0 rfl rfl rfl 1 rfl rfl rfl rfl (.inl ⟨rfl,rfl⟩) rfl (by kernel_rfl) (λb w=>lz b 0 w)) (by kernel_rfl) (λhc=>.at_ 1 rfl rfl rfl hc) (λhc=>.none (by kernel_rfl)),gd λh=>TP h aK,gd λh=>TK h (bu _) (Dm hy ha.2 (by omega)),gd λh=>X0 h,pk,mv,trivial⟩ (.k (.k .z)) (.d8 (.iB .z)) λa w hI=>?_
 refine wp_ret ?_
 exact dD hI rfl (.imp (.tmp 0 rfl) (jK (by rw[G9,G9])))
theorem Kw {b1 b2:Rat} (ha:bB j a1/\bB j a2) (hb:bB j b1/\bB j b2) (hj:j+j<=100000000):∀(M:Nat->Nat->Prop) (w:World) (v0 v1:Value),dz M w->aP M (λw=>(di a1 a2) w v0) w->aP M (λw=>(di b1 b2) w v1) w->Calls Tryz.prog 36 #[v0,v1] w (bE M (di (jl a1 a2 b1 b2) (jj a1 a2 b1 b2)) w):=by
 intro M w0 v0 v1 hM hv0 iK
 refine bD (N:=15) Tryz.func36 rfl rfl rfl hM (show cQ M w0 [v0,v1] [⟨none,none,0,di a1 a2⟩,⟨none,none,1,di b1 b2⟩]from⟨⟨rfl,_,rfl,hv0⟩,⟨rfl,_,rfl,iK⟩,trivial⟩) λa hI=>?_
 refine mg hI 3 [⟨2,2,some 0,none,.ptr,43,6,true,pv (di a1 a2),[]⟩,⟨3,3,some 1,none,.ptr,43,6,true,pv (di b1 b2),[]⟩,⟨4,4,some 2,none,.ptr,43,6,true,pv (di 0 0),[]⟩] [] [] .z (.kk .z) ⟨dQ 0 rfl rfl (by kernel_rfl) (by kernel_rfl) rfl rfl rfl (.tmp 0 rfl rfl) (fg _ _) rfl,dQ 1 rfl rfl (by kernel_rfl) (by kernel_rfl) rfl rfl rfl (.tmp 1 rfl rfl) (fg _ _) rfl,ct 2 rfl rfl (by kernel_rfl) (by kernel_rfl) rfl rfl rfl vf rfl rfl (by simp[gm]) rfl (λw=>AV (gX w)),trivial⟩ (.k (.k (.k .z))) (.dd .z) λa w hI=>?_
 refine mg hI 11 [] [⟨some 0,5,2,0,True⟩,⟨some 2,7,2,3,True⟩,⟨some 4,9,3,0,True⟩,⟨some 6,11,3,3,True⟩] [Uc 1 6 _,Uc 3 8 _,Uc 5 10 _,Uc 7 12 _,Uc 8 13 (pY ([a1,a2,b1,b2])),Uc 9 14 _] (.k (.k (.u none [(10,pv (di (jl a1 a2 b1 b2) (jj a1 a2 b1 b2)))] .z))) .z ⟨aX 0 rfl rfl rfl 0 rfl rfl rfl rfl (.inl ⟨rfl,rfl⟩) rfl (by kernel_rfl) (λb w=>lu b 0 w),Fs aK,aX 0 rfl rfl rfl 1 rfl rfl rfl rfl (.inl ⟨rfl,rfl⟩) rfl (by kernel_rfl) (λb w=>lz b 0 w),Fs aK,aX 1 rfl rfl rfl 2 rfl rfl rfl rfl (.inl ⟨rfl,rfl⟩) rfl (by kernel_rfl) (λb w=>lu b 0 w),Fs aK,aX 1 rfl rfl rfl 3 rfl rfl rfl rfl (.inl ⟨rfl,rfl⟩) rfl (by kernel_rfl) (λb w=>lz b 0 w),Fs aK,gT (fs:=List.replicate 4 ⟨true,3,aD 0⟩) (ps:=[(0,aD a1),(1,aD a2),(2,aD b1),(3,aD b2)]) (gs:=[a1,a2,b1,b2].map λq=>⟨true,3,aD q⟩) en iw rfl rfl rfl (λw=>cU w) rfl (show cA _ _ _ _ _ _ from⟨⟨rfl,(.tmp 0 rfl rfl),_,rfl,bg _⟩,⟨rfl,(.tmp 1 rfl rfl),_,rfl,bg _⟩,⟨rfl,(.tmp 2 rfl rfl),_,rfl,bg _⟩,⟨rfl,(.tmp 3 rfl rfl),_,rfl,bg _⟩,trivial⟩) rfl (λi=>aD ([a1,a2,b1,b2].getD i 0)) (LK _) (.here 4 rfl),TA (ES (j:=j) (by simp) (by simp) (Tt (ha.1) (ha.2) (hb.1) (hb.2)) (by omega)),bG 2 rfl rfl rfl rfl 0 rfl (by kernel_rfl) (by kernel_rfl) iu (.tmp 5 rfl rfl) (fg _ _),trivial⟩ (.k (.k (.s .o .z))) (.dO (.dd .z)) λa w hI=>?_
 refine wp_ret ?_
 exact dD hI rfl (.cell 2 rfl rfl rfl rfl iu rfl)
end Wx
