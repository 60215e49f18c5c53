import Derived.Test.YtpiniclogfefjaaJSylvester26
import Derived.Test.YtpiniclogfefjaaCSylvesterSemTab
namespace Wx
open Go Go.RowKit

structure RowL where
 b:Nat
 n:Nat
 cap:Nat
def RowL.hdr (r:RowL):Value:=.slice (some ⟨r.b,0,none⟩) r.n r.cap
def Y7 (R:List RowL):List It:=R.map fun r=>Z2 r.hdr
structure MatOk (g cap:Nat) (R:List RowL) (M:List (List Rat)) (H:List Bk):Prop where
 top:(⟨g,1,false,Y7 R⟩:Bk)∈H
 rows:∀(i:Nat) (r:RowL),R[i]?=some r→(⟨r.b,3,true,Qw (M.getD i []) r.cap⟩:Bk)∈H
 len:R.length=M.length
 fit:∀(i:Nat) (r:RowL),R[i]?=some r→r.n=(M.getD i []).length∧r.n≤r.cap∧r.cap≤maxLen
 apart:∀(i j:Nat) (r q:RowL),R[i]?=some r→R[j]?=some q→i≠j→r.b≠q.b
 off:∀r:RowL,r∈R→r.b≠g
 size:R.length≤cap∧cap≤maxLen
theorem Ju {R:List RowL} {i:Nat} {r:RowL} (h:R[i]?=some r):(Y7 R)[i]?=some (Z2 r.hdr):=by
 unfold Y7
 rw[List.getElem?_map,h]
 rfl
theorem Qbx (R:List RowL):(Y7 R).length=R.length:=List.length_map ..
theorem tops_set (R:List RowL) (i:Nat) (r:RowL):(Y7 R).set i (Z2 r.hdr)=Y7 (R.set i r):=by
 unfold Y7
 rw[List.map_set]
theorem heap_rats {B:Nat→Prop} {w:World} {H:List Bk} {b n cap p:Nat} {l:List Rat} (h:HpOk B w H) (he:(⟨b,3,true,Qw l p⟩:Bk)∈H) (hn:n=l.length) (hc:n≤cap) (hm:cap≤maxLen):Qd l w (.slice (some ⟨b,0,none⟩) n cap):=by
 subst hn
 obtain⟨cs,T,h1,h2,_,h4⟩:=h.2.2 _ he
 have h1:w.heap[b]?=some (.cells cs.toArray T (0,0)):=h1
 have h2:(Qw l p).length*3≤cs.length:=h2
 rw[Vc]at h2
 refine⟨_,_,rfl,hc,hm,fun _=>⟨b,0,rfl,fun i hi=>⟨(cs.drop (i*3)).take 3,?_,fun j v hj=>?_,?_⟩⟩⟩
 ·rw[List.length_take,List.length_drop]
  omega
 ·rw[Nat.zero_add]
  exact V5 h1 _ _ j v hj
 ·exact h4 i _ (X5 hi)
theorem MatOk.get {g cap:Nat} {R:List RowL} {M:List (List Rat)} {H:List Bk} (h:MatOk g cap R M H) {i:Nat} (hi:i<M.length):∃r,R[i]?=some r:=⟨R[i]'(by rw[h.len]; exact hi),List.getElem?_eq_getElem _⟩
theorem Qb5 {B:Nat→Prop} {w:World} {H:List Bk} {g cap c:Nat} {R:List RowL} {M:List (List Rat)} (h:HpOk B w H) (hM:MatOk g cap R M H) (hc:c≤M.length):Qg 1 false (M.length-c) (fun i=>Qd (M.getD (c+i) [])) w (.slice (some ⟨g,c,none⟩) (M.length-c) (cap-c)):=by
 obtain⟨cs,T,h1,h2,_,h4⟩:=h.2.2 _ hM.top
 have h1:w.heap[g]?=some (.cells cs.toArray T (0,0)):=h1
 have h2:(Y7 R).length*1≤cs.length:=h2
 rw[Qbx,hM.len]at h2
 have hs:=hM.size
 rw[hM.len]at hs
 refine⟨_,_,rfl,by omega,by omega,fun _=>⟨g,c,rfl,fun i hi=>⟨(cs.drop (c+i)).take 1,?_,fun j v hj=>?_,?_⟩⟩⟩
 ·rw[List.length_take,List.length_drop]
  omega
 ·rw[Nat.mul_one]
  exact V5 h1 _ _ j v hj
 ·obtain⟨r,hr⟩:=hM.get (i:=c+i) (by omega)
  have h5:=h4 (c+i) _ (Ju hr)
  have h5:Q6 false ((cs.drop ((c+i)*1)).take 1)=r.hdr:=h5
  rw[Nat.mul_one]at h5
  obtain⟨f1,f2,f3⟩:=hM.fit _ _ hr
  show Qd (M.getD (c+i) []) w (Q6 false ((cs.drop (c+i)).take 1))
  rw[h5]
  exact heap_rats h (hM.rows _ _ hr) f1 f2 f3
def Yt {α:Type} (l:List α) (a b:Nat):List α:=match l[a]?,l[b]? with
 |some x,some y=>(l.set a y).set b x
 |_,_=>l
theorem Qdo {α:Type} {l:List α} {a b:Nat} {x y:α} (hx:l[a]?=some x) (hy:l[b]?=some y):Yt l a b=(l.set a y).set b x:=by unfold Yt; rw[hx,hy]
theorem Ku {α:Type} {l:List α} {a b:Nat} {x y:α} (hx:l[a]?=some x) (hy:l[b]?=some y) (i:Nat):(Yt l a b)[i]?=if i=b then some x else if i=a then some y else l[i]?:=by
 have ha:a<l.length:=by
  rcases Nat.lt_or_ge a l.length with h|h
  ·exact h
  ·rw[List.getElem?_eq_none h]at hx; cases hx
 have hb:b<l.length:=by
  rcases Nat.lt_or_ge b l.length with h|h
  ·exact h
  ·rw[List.getElem?_eq_none h]at hy; cases hy
 rw[Qdo hx hy]
 by_cases h1:i=b
 ·subst h1
  rw[if_pos rfl,List.getElem?_set_self (by rw[List.length_set]; exact hb)]
 ·rw[if_neg h1,List.getElem?_set_ne (Ne.symm h1)]
  by_cases h2:i=a
  ·subst h2
   rw[if_pos rfl,List.getElem?_set_self ha]
  ·rw[if_neg h2,List.getElem?_set_ne (Ne.symm h2)]
theorem Wa {α:Type} (l:List α) (a b:Nat):(Yt l a b).length=l.length:=by
 unfold Yt
 split<;>simp
theorem MatOk.swap {g cap:Nat} {R:List RowL} {M:List (List Rat)} {H:List Bk} (h:MatOk g cap R M H) {a b:Nat} (ha:a<M.length) (hb:b<M.length):MatOk g cap (Yt R a b) (Yt M a b) (Y0 H g (Y7 (Yt R a b))):=by
 obtain⟨x,hx⟩:=h.get ha
 obtain⟨y,hy⟩:=h.get hb
 have mx:M[a]?=some (M.getD a []):=by rw[List.getD_eq_getElem?_getD,List.getElem?_eq_getElem ha]; rfl
 have my:M[b]?=some (M.getD b []):=by rw[List.getD_eq_getElem?_getD,List.getElem?_eq_getElem hb]; rfl
 have gR:=Ku hx hy
 have gM:=Ku mx my
 -- row i of the exchanged one is row s i
 have key:∀i r,(Yt R a b)[i]?=some r→∃j,R[j]?=some r∧(Yt M a b).getD i []=M.getD j []∧((i=b∧j=a)∨(i≠b∧i=a∧j=b)∨(i≠b∧i≠a∧j=i)):=by
  intro i r hr
  rw[gR i]at hr
  have hg:(Yt M a b).getD i []=(if i=b then some (M.getD a [])else if i=a then some (M.getD b [])else M[i]?).getD []:=by rw[List.getD_eq_getElem?_getD,gM i]
  rw[hg]
  by_cases h1:i=b
  ·rw[if_pos h1]at hr ⊢
   exact⟨a,hx.trans hr,rfl,.inl ⟨h1,rfl⟩⟩
  ·rw[if_neg h1]at hr ⊢
   by_cases h2:i=a
   ·rw[if_pos h2]at hr ⊢
    exact⟨b,hy.trans hr,rfl,.inr (.inl ⟨h1,h2,rfl⟩)⟩
   ·rw[if_neg h2]at hr ⊢
    exact⟨i,hr,by rw[List.getD_eq_getElem?_getD],.inr (.inr ⟨h1,h2,rfl⟩)⟩
 have off':∀r,r∈Yt R a b→r.b≠g:=fun r hr=>by
  obtain⟨i,hi⟩:=List.mem_iff_getElem?.1 hr
  obtain⟨j,hj,_⟩:=key i r hi
  exact h.off r (List.mem_of_getElem? hj)
 refine⟨U7 h.top rfl,fun i r hr=>?_,by rw[Wa,Wa]; exact h.len,fun i r hr=>?_,fun i j r q hr hq hne=>?_,off',by rw[Wa]; exact h.size⟩
 ·obtain⟨j,hj,e,_⟩:=key i r hr
  rw[e]
  exact K7 (h.rows j r hj) (h.off r (List.mem_of_getElem? hj))
 ·obtain⟨j,hj,e,_⟩:=key i r hr
  rw[e]
  exact h.fit j r hj
 ·obtain⟨i',hi',_,e1⟩:=key i r hr
  obtain⟨j',hj',_,e2⟩:=key j q hq
  exact h.apart i' j' r q hi' hj' (by omega)
theorem Qbp {H:List Bk} {b idx:Nat} {it:It} {e:Bk} (he:e∈H) (hb:e.b=b):({ e with items:=e.items.set idx it }:Bk)∈Xs H b idx it:=List.mem_map.2 ⟨e,he,if_pos hb⟩
theorem heap_swap {H:List Bk} {g a b:Nat} {R:List RowL} {x y:RowL} (hu:∀e,e∈H→e.b=g→e.items=Y7 R) (hx:R[a]?=some x) (hy:R[b]?=some y):Xs (Xs H g a (Z2 y.hdr)) g b (Z2 x.hdr)=Y0 H g (Y7 (Yt R a b)):=by
 have e:Y0 H g (Y7 R)=H:=Kw hu
 rw[Qdo hx hy,← tops_set,← tops_set,← Kv,← Kv,e]
theorem firstI_range (p:Nat→Bool) (n:Nat):-1≤Z1 p n∧Z1 p n<n:=by
 unfold Z1
 split
 ·rename_i i h
  have:=List.mem_of_find?_eq_some h
  have:i<n:=by simpa using this
  omega
 ·omega
def Xh (X:List (List Rat)) (c:Nat):Int:=Z1 (fun i=>!(decide ((X.getD (c+i) []).getD c 0=0))) (X.length-c)
theorem Wj {X:List (List Rat)} {c:Nat} (hc:c<X.length):-1≤Xh X c∧(c:Int)+Xh X c<X.length:=by
 have:=firstI_range (fun i=>!(decide ((X.getD (c+i) []).getD c 0=0))) (X.length-c)
 unfold Xh
 omega
def Yq {α:Type} (X:List (List Rat)) (l:List α) (c:Nat):List α:=if Xh X c<0 then l else Yt l c (c+(Xh X c).toNat)
theorem MatOk.pivot {g cap:Nat} {R:List RowL} {X:List (List Rat)} {H:List Bk} (h:MatOk g cap R X H) {c:Nat} (hc:c<X.length) (hu:∀e,e∈H→e.b=g→e.items=Y7 R):MatOk g cap (Yq X R c) (Yq X X c) (Y0 H g (Y7 (Yq X R c))):=by
 unfold Yq
 split
 ·rw[Kw hu]
  exact h
 ·have:=Wj hc
  exact h.swap hc (by omega)
theorem MatOk.setRow {g cap:Nat} {R:List RowL} {M:List (List Rat)} {H:List Bk} (h:MatOk g cap R M H) {a:Nat} {x:RowL} (hx:R[a]?=some x) {l:List Rat} (hl:l.length=(M.getD a []).length):MatOk g cap R (M.set a l) (Y0 H x.b (Qw l x.cap)):=by
 have ha:a<M.length:=by
  rw[← h.len]
  rcases Nat.lt_or_ge a R.length with h'|h'
  ·exact h'
  ·rw[List.getElem?_eq_none h']at hx; cases hx
 have eq:∀i,(M.set a l).getD i []=if i=a then l else M.getD i []:=fun i=>by
  rw[List.getD_eq_getElem?_getD]
  by_cases hi:i=a
  ·subst hi
   rw[if_pos rfl,List.getElem?_set_self ha]
   rfl
  ·rw[if_neg hi,List.getElem?_set_ne (Ne.symm hi),List.getD_eq_getElem?_getD]
 refine⟨K7 h.top (Ne.symm (h.off x (List.mem_of_getElem? hx))),fun i r hr=>?_,by rw[List.length_set]; exact h.len,fun i r hr=>?_,h.apart,h.off,h.size⟩
 ·rw[eq]
  by_cases hi:i=a
  ·subst hi
   rw[hx]at hr
   injection hr with hr
   subst hr
   rw[if_pos rfl]
   exact U7 (h.rows i x hx) rfl
  ·rw[if_neg hi]
   exact K7 (h.rows i r hr) (h.apart i a r x hr hx hi)
 ·rw[eq]
  obtain⟨f1,f2,f3⟩:=h.fit i r hr
  by_cases hi:i=a
  ·subst hi
   rw[if_pos rfl,hl]
   exact⟨f1,f2,f3⟩
  ·rw[if_neg hi]
   exact⟨f1,f2,f3⟩
end Wx

namespace Wx
open Go Go.RowKit

structure MatL where
 g:Nat
 cap:Nat
 R:List RowL
 H:List Bk
def MatL.hd (n:Nat) (l:MatL):Value:=.slice (some ⟨l.g,0,none⟩) n l.cap
section
variable {P:Program} {Q:Exit→Act→World→Prop} {c:Cfg} {V:List Vr} {A:List Al} {G:List Ent} {a:Act} {w:World} {o:Oper}
variable {d:Nat} {x y z u:Operand} {ty:TypeId} {pos:String} {aft:Array Edge}
theorem DoesG.mono {ops:Array Oper} {K K':Act→World→Prop} (h:DoesG P ops o a w K) (hK:∀a w,K a w→K' a w):DoesG P ops o a w K':=by
 unfold DoesG at *
 split at h
 ·rename_i hw
  rw[if_pos hw]
  exact h.mono hK
 ·rename_i hw
  rw[if_neg hw]
  exact hK _ _ h
theorem Qe2 {Λ:Type} {C:Λ→Prop} {hd:Λ→Value} {H:Λ→List Bk} {p1:Qj} (id:Nat) {f:FuncId} {ts:Array TypeId} {ops:Array Oper} (hf:Y1 P f) (h:Inv c V [] G Qf a w) (h1:Has [0] G 0 x p1)
  (hc:∀(M:Nat→Nat→Prop) w v1,Mid M w→Box M (fun w=>p1 w v1) w→Calls P f #[v1] w (RetO C hd H w)) (hd':decide (d<c.N)=true) (hV:(V.all fun y=>(y.slot != d&&y.id != id)&&(y.born.isNone&&y.dead.isNone))=true) (hG:(G.all fun e=>e.slot != d)=true):
  DoesG P ops ⟨some d,.call ⟨.value (.func f),#[x],ts⟩,ty,pos,aft,none⟩ a w (fun a w=>∃l,C l∧Inv c (Xu id d (H l)::V) [] (⟨none,none,d,Qe (hd l)⟩::G) Qf a w):=
 step_callO hf h (fun β hI=>by
  rw[show(#[x]:Array Operand).map a.eval=#[a.eval x] by simp]
  exact hc _ w _ (X8 hI) (h1.spec hI det0)) hd' hV hG
end
end Wx

namespace Wx
open Go Go.RowKit

section
variable {P:Program} {c:Cfg} {V:List Vr} {G:List Ent} {a:Act} {w:World} {o:Oper}
def singB (o:Oper) (N:Nat) (nv:List Vr) (ne:List Ent) (V1:List Vr) (G1:List Ent):Bool:=o.guard.isNone&&(Ux nv [] ne&&Wy N [o] V1 [] G1)
theorem Jh {ops:Array Oper} {V1 V2:List Vr} {G1 G2:List Ent} (h:Inv c V [] G Qf a w) (nv:List Vr) (ne:List Ent) (hV:MkV nv V V1) (hG:MkE ne G G1) (hb:singB o c.N nv ne V1 G1=true)
  (hs:Xf P #[o] [0] c V1 [] G1 0 o) (kV:KeepV V1 V2) (kG:KeepE G1 G2):DoesG P ops o a w (Inv c V2 [] G2 Qf):=by
 unfold singB Ux at hb
 simp only[Bool.and_eq_true]at hb
 obtain⟨hg,⟨hn1,hn2,hn3⟩,hwf⟩:=hb
 obtain⟨kv,e1⟩:=Qam kV.sub
 obtain⟨kg,e2⟩:=Qam kG.sub
 exact single h (by cases hgg:o.guard with|none=>rfl|some x=>rw[hgg]at hg; cases hg) (hV.strip hn1) rfl (hG.strip hn3) hwf hs kv kg e1 e2
theorem exL {ops:Array Oper} {Λ:Type} {C:Λ→Prop} {J J':Λ→Act→World→Prop} (h:∀l,C l→∀a w,J l a w→DoesG P ops o a w (J' l)):∀a w,(∃l,C l∧J l a w)→DoesG P ops o a w (fun a w=>∃l,C l∧J' l a w):=chain_ex h fun h hm=>h.mono hm
theorem DoesG.exC {ops:Array Oper} {Λ:Type} {C C':Λ→Prop} {J:Λ→Act→World→Prop} (h:DoesG P ops o a w (fun a w=>∃l,C l∧J l a w)) (hc:∀l,C l→C' l):DoesG P ops o a w (fun a w=>∃l,C' l∧J l a w):=h.mono fun _ _ ⟨l,h1,h2⟩=>⟨l,hc l h1,h2⟩
end
end Wx
