import Derived.Test.YtfnmkhlleanppaaGreatDoorRows
import Derived.WalkKit
import Derived.ProofKit
import Derived.OpenShut
import Derived.Below
import Derived.ChangeSame
import Derived.Lib.SmallJoins
import Derived.DataReads
import Derived.Deep.Slices
import Derived.Lib.Hide
import Derived.Laws.Externs
import Derived.Laws.MakeOwn
import Derived.Deep.DeepCutAuto
import Derived.Deep.CutBlock
import Derived.Deep.AppendLies
import Derived.WalkSmall
import Derived.Deep.QuietTactic
import Derived.BigQuiet
import Derived.Handy
import Derived.Orders
import Derived.Tactics
namespace Wx
open Go Go.RowKit Go.Proofs Go.ChangeShapes Go.WideShapes Go.ChangeAt Go.Joins
section
variable {H:Type} {enc:TypeId×Value->H} {P:Program}
theorem nU {f:Func} {s:ChangeSpec} {apart fresh handsOn again:Bool} {W W':World} {args:Array Value} {v:Value} {ds gs:List (DataW H)} {before pa pv:List MemPlace}
  (hW:DataW.Whole enc P f.params.toList s.vars apart W args.toList ds gs before)
  (hres:∀(b:Nat) (sp:Nat->Bool) (hd:Bool),DataW.TrodAll enc P W' b sp hd f.resultTypes.toList (v.resultList f.resultTypes.size) (s.fn H (ds++gs)).results [])
  (hargs:∀sp:Nat->Bool,(∀p∈before,sp p.block=true)->DataW.TrodAll enc P W' 0 sp true f.params.toList args.toList (s.fn H (ds++gs)).args pa)
  (hvars:∀sp:Nat->Bool,(∀p∈before,sp p.block=true)->DataW.TrodVars enc P W' sp s.vars (s.fn H (ds++gs)).vars pv)
  (hps:before=pa++pv) (hb:Below W.heap.size W W')
  (hok:∀(j:Nat) (t:TypeId) (r:Value),f.resultTypes[j]?=some t->(v.resultList f.resultTypes.size)[j]?=some r->Value.okWide P W' .any 0 t r):
  s.post enc P f apart fresh handsOn again W args v W':=by
 have hlt:∀p∈before,p.block<W.heap.size:=λp hp=>hW.lt p hp
 have hold:∀p∈before,(λb=>decide (b<W.heap.size)) p.block=true:=λp hp=>by simpa using hlt p hp
 refine⟨ds,gs,before,[],pa,pv,hW,hres _ _ _,hargs _ hold,hvars _ hold,World.keptBut_mono (λp hp=>⟨hp,?_⟩) (hb.frame (·∈before)),λ_=>?_⟩
 ·rw[hps,List.mem_append]at hp
  exact Or.inr hp
 ·obtain⟨_,_,_,_,_,hz,hn⟩:=hW
  refine⟨hok,_,_,([]++pa)++pv,⟨[]++pa,pv,trodAll_append (hargs _ (λ_ _=>rfl)) (hres _ _ _),hvars _ (λ_ _=>rfl),rfl,?_,?_⟩,?_⟩
  ·intro b off hp
   have hin:MemPlace.cell b off∈before:=by rw[hps]; simpa using hp
   rw[hb.frozen (hlt _ hin)]
   exact hz b off hin
  ·intro ha
   have:=hn ha
   rw[hps]at this
   simpa using this
  ·intro p hp _
   rw[hps]
   simpa using hp
end
end Wx

namespace Wx
open Go Go.RowKit Go.Proofs Go.ChangeShapes Go.WideShapes Go.ChangeAt
section
variable {H:Type} {enc:TypeId×Value->H} {P:Program} {w w':World} {held:Bool} {sp:Nat->Bool}
theorem eG {α β:Type} {f f':α->Option β}:∀{l:List α} {r:List β},l.mapM f=some r->(∀x∈l,∀y,f x=some y->y∈r->f' x=some y)->l.mapM f'=some r
 |[],r,h,_=>h
 |x::l,r,h,hk=>by
  rw[List.mapM_cons]at h ⊢
  simp only[bind,pure,Option.bind_eq_some_iff,Option.some.injEq]at h ⊢
  obtain⟨y,h1,r',h2,rfl⟩:=h
  exact⟨y,hk x (List.mem_cons_self ..) y h1 (List.mem_cons_self ..),r',eG h2 λx hx y hy hm=>hk x (List.mem_cons_of_mem _ hx) y hy (List.mem_cons_of_mem _ hm),rfl⟩
theorem vz (hw:∀k,k<w.heap.size->w'.heap[k]?=w.heap[k]?) {a:Addr} {v:Value} (h:w.cell? a=some v):w'.cell? a=some v:=by
 rw[World.cell?_of_block (w:=w) (hw _ (World.block_lt_of_cell? w _ h))]
 exact h
theorem sS (hw:∀k,k<w.heap.size->w'.heap[k]?=w.heap[k]?) {b n:Nat} {a:Addr} {cs:List Value} (h:w.cells? b a n=some cs):w'.cells? b a n=some cs:=by
 unfold World.cells? at h ⊢
 split at h
 ·rename_i hb
  rw[if_pos hb]
  exact eG h λx _ y hy _=>vz hw hy
 ·cases h
def jU (P:Program):Nat->TypeId->Bool
 |0,_=>false
 |n+1,t=>match P.underlying t with
  |some (.pointer e)=>jU P n e
  |some (.slice e)=>decide (0<P.cellsOf e)&&jU P n e
  |some (.struct fs)=>fs.toList.all λf=>jU P n f.type
  |some (.array _ e)=>jU P n e
  |some (.map _ e)=>jU P n e
  |_=>true
theorem iG {α β:Type} {x:α×List β} {l:List (α×List β)} (h:x∈l) {p:β} (hp:p∈x.2):p∈l.flatMap (·.2):=List.mem_flatMap.2 ⟨x,h,hp⟩
theorem oM (hw:∀k,k<w.heap.size->w'.heap[k]?=w.heap[k]?):
  ∀(fuel n:Nat) (t:TypeId),jU P n t=true->∀(cs:List Value) (x:DataW H×List MemPlace),DataW.trod enc P w 0 (λ_=>true) true fuel t cs=some x->(∀p∈x.2,sp p.block=true)->DataW.trod enc P w' 0 sp true fuel t cs=some x
 |0,_,_,_,_,_,h,_=>by simp[DataW.trod]at h
 |_+1,0,_,hk,_,_,_,_=>by cases hk
 |fuel+1,n0+1,t,hk,cs,x,h,hx=>by
  have ih:=oM hw fuel n0
  unfold jU at hk
  have xU:∀{a:Addr} {n:Nat} {e:TypeId} {y:DataW H×List MemPlace},jU P n0 e=true->(w.cells? 0 a n).bind (DataW.trod enc P w 0 (λ_=>true) true fuel e)=some y->(∀p∈y.2,sp p.block=true)->(w'.cells? 0 a n).bind (DataW.trod enc P w' 0 sp true fuel e)=some y:=by
   intro a n e y CU h hy
   obtain⟨cs,h1,h2⟩:=Option.bind_eq_some_iff.1 h
   exact Option.bind_eq_some_iff.2 ⟨cs,sS hw h1,ih _ CU _ _ h2 hy⟩
  unfold DataW.trod at h ⊢
  split at h
  case h_6 e a ht=>
   simp only[ht]at hk
   obtain⟨y,h1,rfl⟩:=Option.map_eq_some_iff.1 h
   exact Option.map_eq_some_iff.2 ⟨y,xU hk h1 λp hp=>hx p (List.mem_append.2 (.inr hp)),rfl⟩
  case h_8 e a len cap ht=>
   simp only[ht,Bool.and_eq_true,decide_eq_true_eq]at hk
   simp only at h ⊢
   split at h
   ·rename_i hc
    rw[if_pos hc]
    simp only[Option.bind_eq_some_iff,Option.map_eq_some_iff,if_true]at h
    obtain⟨elems,he,rest,hr,rfl⟩:=h
    have hlr:rest.length=cap-len:=by simpa using mapM_some_length hr
    have hle:elems.length=len:=by simpa using mapM_some_length he
    have hs:cap=len\/sp a.block=true:=by
     rcases Nat.lt_or_ge 0 cap with h0|h0
     ·right
      have Ml:=hk.1
      have:=hx (.cell a.block (a.off+0)) (List.mem_append.2 (.inl (List.mem_map.2 ⟨0,by
       simp only[List.mem_range]
       have:0<elems.length+rest.length:=by omega
       exact Nat.mul_pos this Ml,rfl⟩)))
      exact this
     ·left
      omega
    have e1:=eG he (f':=λi=>(w'.cells? 0 (a.add (i*P.cellsOf e)) (P.cellsOf e)).bind (DataW.trod enc P w' 0 sp true fuel e)) λi _ y hy hm=>xU hk.2 hy λp hp=>hx p (List.mem_append.2 (.inr (iG (List.mem_append.2 (.inl hm)) hp)))
    have e2:=eG hr (f':=λj=>(w'.cells? 0 (a.add ((len+j)*P.cellsOf e)) (P.cellsOf e)).bind (DataW.trod enc P w' 0 sp true fuel e)) λi _ y hy hm=>xU hk.2 hy λp hp=>hx p (List.mem_append.2 (.inr (iG (List.mem_append.2 (.inr hm)) hp)))
    rw[e1]
    simp only[Option.bind_some]
    rcases hs with hs|hs
    ·have h0:rest=[]:=List.eq_nil_of_length_eq_zero (by omega)
     subst h0
     split
     ·rw[e2]; rfl
     ·rfl
    ·rw[if_pos hs,e2]
     rfl
   ·cases h
  case h_9 fs ht=>
   simp only[ht,List.all_eq_true]at hk
   split at h
   ·rename_i hc
    rw[if_pos hc]
    obtain⟨xs,h1,rfl⟩:=Option.map_eq_some_iff.1 h
    exact Option.map_eq_some_iff.2 ⟨xs,eG h1 λf hf y hy hm=>ih _ (hk f hf) _ _ hy λp hp=>hx p (iG hm hp),rfl⟩
   ·cases h
  case h_10 n e ht=>
   simp only[ht]at hk
   split at h
   ·rename_i hc
    rw[if_pos hc]
    obtain⟨xs,h1,rfl⟩:=Option.map_eq_some_iff.1 h
    exact Option.map_eq_some_iff.2 ⟨xs,eG h1 λf _ y hy hm=>ih _ hk _ _ hy λp hp=>hx p (iG hm hp),rfl⟩
   ·cases h
  case h_14 k e b ht=>
   simp only[ht]at hk
   split at h
   ·rename_i es clock hb
    have hb':w'.heap[b]?=some (.map es clock):=by
     rw[hw b (by
      rcases Nat.lt_or_ge b w.heap.size with h'|h'
      ·exact h'
      ·rw[Array.getElem?_eq_none h']at hb; cases hb)]
     exact hb
    simp only[hb']
    split at h
    ·rename_i hc
     rw[if_pos hc]
     obtain⟨entries,h1,h2⟩:=Option.bind_eq_some_iff.1 h
     have hx':∀y∈entries,∀p∈y.2,sp p.block=true:=λy hy p hp=>by
      simp only at h2
      split at h2
      ·obtain rfl:=Option.some.inj h2
       exact hx p (List.mem_cons_of_mem _ (iG hy hp))
      ·cases h2
     refine Option.bind_eq_some_iff.2 ⟨entries,eG h1 λz _ y hy hm=>?_,h2⟩
     obtain⟨key,k1,k2⟩:=Option.bind_eq_some_iff.1 hy
     refine Option.bind_eq_some_iff.2 ⟨key,k1,?_⟩
     split at k2
     ·rename_i hf
      rw[if_pos hf]
      obtain⟨y',k3,rfl⟩:=Option.map_eq_some_iff.1 k2
      exact Option.map_eq_some_iff.2 ⟨y',ih _ hk _ _ k3 λp hp=>hx' _ hm p hp,rfl⟩
     ·cases k2
    ·cases h
   ·cases h
  all_goals exact h
theorem kA (hw:∀k,k<w.heap.size->w'.heap[k]?=w.heap[k]?) (n:Nat):∀{ts:List TypeId} {vs:List Value} {ds:List (DataW H)} {p:List MemPlace},(ts.all (jU P n))=true->DataW.TrodAll enc P w 0 (λ_=>true) true ts vs ds p->(∀q∈p,sp q.block=true)->DataW.TrodAll enc P w' 0 sp true ts vs ds p
 |[],[],[],_,_,h,_=>h
 |t::ts,v::vs,d::ds,p,hk,⟨p1,p2,⟨fuel,h1⟩,h2,e⟩,hs=>by
  subst e
  rw[List.all_cons,Bool.and_eq_true]at hk
  exact⟨p1,p2,⟨fuel,oM hw fuel n _ hk.1 _ _ h1 λq hq=>hs q (List.mem_append.2 (.inl hq))⟩,kA hw n hk.2 h2 λq hq=>hs q (List.mem_append.2 (.inr hq)),rfl⟩
 |[],[],_::_,_,_,h,_=>h.elim
 |[],_::_,_,_,_,h,_=>h.elim
 |_::_,[],_,_,_,h,_=>h.elim
 |_::_,_::_,[],_,_,h,_=>h.elim
end
end Wx

namespace Wx
def CG (b:Nat):Nat->Nat->List Nat
 |0,_=>[]
 |f+1,n=>if n=0 then[]else n%b::CG b f (n/b)
def DV (b n:Nat):List Nat:=CG b n n
theorem oh (b:Nat):DV b 0=[]:=rfl
def Bd (k n:Nat):Prop:=n<2^k
theorem Bd.mono {j k n:Nat} (h:Bd j n) (hk:j<=k):Bd k n:=Nat.lt_of_lt_of_le h (Nat.pow_le_pow_right (by omega) hk)
end Wx

namespace Wx
open Go Go.RowKit
structure Bx (p:Prop):Prop where
 out:p
theorem bx {p:Prop} (h:p):Bx p:=⟨h⟩
def Rd (w:World) (k:IntKind) (A:Option Addr) (c:Nat) (l:List Nat):Prop:=
 l.length<=c/\c<=maxLen/\(l≠[]->∃b o,A=some ⟨b,o,none⟩/\∀i,i<l.length->w.cell? ⟨b,o+i,none⟩=some (.int k (l.getD i 0:Nat)))
theorem Rd.nil (w:World) (k:IntKind):Rd w k none 0 []:=⟨Nat.le_refl _,Nat.zero_le _,λh=>absurd rfl h⟩
def Ah (k:IntKind) (b:Nat) (w:World) (v:Value) (n:Nat):Prop:=∃A c,v=.slice A (DV b n).length c/\Rd w k A c (DV b n)
theorem Ah.zero (k:IntKind) (b:Nat) (w:World):Ah k b w (.slice none 0 0) 0:=⟨none,0,by rw[oh]; rfl,by rw[oh]; exact Rd.nil _ _⟩
@[irreducible] def adLo (x y : Nat) : Nat := (x + y) % 18446744073709551616
@[irreducible] def adHi (x y : Nat) : Nat := (x + y) / 18446744073709551616
@[irreducible] def muLo (x y : Nat) : Nat := x * y % 18446744073709551616
@[irreducible] def muHi (x y : Nat) : Nat := x * y / 18446744073709551616
end Wx

namespace Wx
open Go
section
variable {P:Program} {ops:Array Oper} {Q:Exit->Act->World->Prop}
def xP (ops:Array Oper):Bool:=(List.range ops.size).all λi=>(ops[i]?).all λo=>o.after.all λe=>!Region.binds .any e||decide (e.on<i)
theorem rh (h:xP ops=true) {i:Nat} {o:Oper} (hi:ops[i]?=some o) {e:Edge} (he:e∈o.after) (hb:Region.binds .any e=true):e.on<i:=by
 unfold xP at h
 rw[List.all_eq_true]at h
 have hlt:i<ops.size:=by
  rcases Nat.lt_or_ge i ops.size with h'|h'
  ·exact h'
  ·rw[Array.getElem?_eq_none h']at hi; cases hi
 have:=h i (List.mem_range.2 hlt)
 rw[hi]at this
 simp only[Option.all_some]at this
 rw[Array.all_eq_true_iff_forall_mem]at this
 have h2:=this e he
 rw[hb]at h2
 simpa using h2
theorem tM (hf:xP ops=true) {listed:Array Bool} {i:Nat} (hi:i<ops.size) (hl:listed.getD i true=false) (hsz:listed.size=ops.size):Region.ready .any ops listed≠[]:=by
 have key:∀n i,i<=n->i<ops.size->listed.getD i true=false->∃j,j∈Region.ready .any ops listed:=by
  intro n
  induction n with
  |zero=>
   intro i h0 hi hl
   refine⟨i,mem_ready.2 ⟨hl,ops[i],Array.getElem?_eq_getElem hi,λe he hb=>?_⟩⟩
   have:=rh hf (Array.getElem?_eq_getElem hi) he hb
   omega
  |succ n ih=>
   intro i h0 hi hl
   by_cases de:∀e∈ops[i].after,Region.binds .any e=true->listed.getD e.on false=true
   ·exact⟨i,mem_ready.2 ⟨hl,ops[i],Array.getElem?_eq_getElem hi,de⟩⟩
   ·simp only[Classical.not_forall]at de
    obtain⟨e,he,hb,hn⟩:=de
    have hlt:=rh hf (Array.getElem?_eq_getElem hi) he hb
    refine ih e.on (by omega) (by omega) ?_
    have hs:e.on<listed.size:=by omega
    simp only[Array.getD_eq_getD_getElem?,Array.getElem?_eq_getElem hs,Option.getD_some]at hn ⊢
    simpa using hn
 obtain⟨j,hj⟩:=key i i (Nat.le_refl _) hi hl
 intro h
 rw[h]at hj
 cases hj
def before (ops:Array Oper):Nat->Nat->List Nat
 |0,_=>[]
 |n+1,i=>match ops[i]? with
  |none=>[]
  |some o=>(o.after.toList.filter (λe=>Region.binds .any e)).flatMap λe=>e.on::before ops n e.on
def qx (ops:Array Oper) (F:List Nat):Bool:=(F.all λj=>decide (j<ops.size))&&(List.range ops.size).all λi=>F.contains i||F.all λj=>(before ops ops.size i).contains j
def mg (ops:Array Oper) (listed:Array Bool):Prop:=∀i o,ops[i]?=some o->listed.getD i false=true->∀e∈o.after,Region.binds .any e=true->listed.getD e.on false=true
variable {listed:Array Bool}
theorem nI (hc:mg ops listed):∀(n i:Nat),(∀o,ops[i]?=some o->∀e∈o.after,Region.binds .any e=true->listed.getD e.on false=true)->∀j∈before ops n i,listed.getD j false=true:=by
 intro n
 induction n with
 |zero=>intro i _ j hj; simp[before]at hj
 |succ n ih=>
  intro i h j hj
  unfold before at hj
  cases ho:ops[i]? with
  |none=>rw[ho]at hj; simp at hj
  |some o=>
   rw[ho]at hj
   simp only[List.mem_flatMap,List.mem_filter]at hj
   obtain⟨e,⟨he,hb⟩,hj⟩:=hj
   have hl:=h o ho e (by simpa using he) hb
   rcases List.mem_cons.1 hj with rfl|hj
   ·exact hl
   ·exact ih e.on (λo' tg e' he' hb'=>hc e.on o' tg hl e' he' hb') j hj
theorem mg.set (hc:mg ops listed) {i:Nat} (hr:i∈Region.ready .any ops listed):mg ops (listed.setIfInBounds i true):=by
 intro k o ho hk e he hb
 have up:∀j,listed.getD j false=true->(listed.setIfInBounds i true).getD j false=true:=by
  intro j hj
  by_cases hij:i=j
  ·subst hij
   rcases Nat.lt_or_ge i listed.size with h'|h'
   ·simp[h']
   ·simp[Array.getElem?_eq_none h']at hj
  ·simpa [Array.getElem?_setIfInBounds_ne hij] using hj
 by_cases ya:i=k
 ·subst ya
  obtain⟨_,o',tg,de⟩:=mem_ready.1 hr
  rw[ho]at tg
  injection tg with tg
  subst tg
  exact up _ (de e he hb)
 ·refine up _ (hc k o ho ?_ e he hb)
  simpa [Array.getElem?_setIfInBounds_ne ya] using hk
def ug (n:Nat) (F:List Nat) (listed:Array Bool):Prop:=listed.size=n/\∀i,i<n->F.contains i=false->listed.getD i true=false
def jZ (n:Nat) (F:List Nat):Array Bool:=((List.range n).map λi=>F.contains i).toArray
theorem sV {n:Nat} {l:Array Bool} (hs:l.size=n) {i:Nat} (hi:i<n) (hl:l.getD i true=false):
  ((List.range n).filter λj=>!((l.setIfInBounds i true).getD j true)).length+1=((List.range n).filter λj=>!(l.getD j true)).length:=by
 have key:∀m,m<=n->((List.range m).filter λj=>!((l.setIfInBounds i true).getD j true)).length+(if i<m then 1 else 0)=((List.range m).filter λj=>!(l.getD j true)).length:=by
  intro m
  induction m with
  |zero=>intro _; simp
  |succ m ih=>
   intro hm
   have:=ih (by omega)
   rw[List.range_succ,List.filter_append,List.filter_append,List.length_append,List.length_append]
   by_cases nA:i=m
   ·subst nA
    have e1:(l.setIfInBounds i true).getD i true=true:=by simp[hs,hi]
    have c1:List.filter (λj=>!((l.setIfInBounds i true).getD j true)) [i]=[]:=by rw[List.filter_cons,e1]; rfl
    have c2:List.filter (λj=>!(l.getD j true)) [i]=[i]:=by rw[List.filter_cons,hl]; rfl
    rw[if_neg (Nat.lt_irrefl i)]at this
    rw[c1,c2,if_pos (by omega)]
    simp only[List.length_nil,List.length_cons]
    omega
   ·have e1:(l.setIfInBounds i true).getD m true=l.getD m true:=by simp[Array.getElem?_setIfInBounds_ne nA]
    simp only[List.filter_cons,List.filter_nil,e1]
    have e2:(if i<m+1 then 1 else 0)=(if i<m then 1 else 0):=by
     by_cases h:i<m
     ·rw[if_pos h,if_pos (by omega)]
     ·rw[if_neg h,if_neg (by omega)]
    rw[e2]
    omega
 have:=key n (Nat.le_refl _)
 rw[if_pos hi]at this
 exact this
def wD (o:Oper):List Nat:=(o.after.toList.filter λe=>Region.binds .any e).map (·.on)
def upd (L:Nat->Bool) (i:Nat):Nat->Bool:=λj=>if j=i then true else L j
theorem zW (L:Nat->Bool) (i:Nat):upd L i i=true:=if_pos rfl
theorem ua {L:Nat->Bool} {i j:Nat} (h:upd L i j=true) (hne:j≠i):L j=true:=by unfold upd at h; rwa [if_neg hne]at h
def gV (ops:Array Oper):Bool:=xP ops&&decide (Region.ready .any ops (Array.replicate ops.size true)=[])
end
end Wx
