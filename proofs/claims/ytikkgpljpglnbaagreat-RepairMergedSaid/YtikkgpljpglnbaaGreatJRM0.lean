import Derived.Test.YtikkgpljpglnbaaGreatRows
import Derived.WalkKit
import Derived.ProofKit
import Derived.OpenShut
import Derived.Below
import Derived.ChangeSame
import Derived.Lib.SmallJoins
import Derived.DataReads
import Derived.Deep.Slices
namespace Wx
open Go Go.RowKit Go.Proofs Go.ChangeShapes Go.WideShapes Go.ChangeAt Go.Joins
section
variable {H:Type} {enc:TypeId×Value->H} {P:Program}
theorem uv {f:Func} {s:ChangeSpec} {apart fresh handsOn again:Bool} {W W':World} {args:Array Value} {v:Value} {ds gs:List (DataW H)} {before pa pv:List MemPlace}
  (hW:DataW.Whole enc P f.params.toList s.vars apart W args.toList ds gs before)
  (hres:∀(b:Nat) (sp:Nat->Bool) (hd:Bool),DataW.TrodAll enc P W' b sp hd f.resultTypes.toList (v.resultList f.resultTypes.size) (s.fn H (ds++gs)).results [])
  (hargs:∀sp:Nat->Bool,(∀p∈before,sp p.block=true)->DataW.TrodAll enc P W' 0 sp true f.params.toList args.toList (s.fn H (ds++gs)).args pa)
  (hvars:∀sp:Nat->Bool,(∀p∈before,sp p.block=true)->DataW.TrodVars enc P W' sp s.vars (s.fn H (ds++gs)).vars pv)
  (hps:before=pa++pv) (hb:Below W.heap.size W W')
  (hok:∀(j:Nat) (t:TypeId) (r:Value),f.resultTypes[j]?=some t->(v.resultList f.resultTypes.size)[j]?=some r->Value.okWide P W' .any 0 t r):
  s.post enc P f apart fresh handsOn again W args v W':=by
 have hlt:∀p∈before,p.block<W.heap.size:=λp hp=>hW.lt p hp
 have hold:∀p∈before,(λb=>decide (b<W.heap.size)) p.block=true:=λp hp=>by simpa using hlt p hp
 refine⟨ds,gs,before,[],pa,pv,hW,hres _ _ _,hargs _ hold,hvars _ hold,World.keptBut_mono (λp hp=>⟨hp,?_⟩) (hb.frame (·∈before)),λ_=>?_⟩
 ·rw[hps,List.mem_append]at hp
  exact Or.inr hp
 ·obtain⟨_,_,_,_,_,hz,hn⟩:=hW
  refine⟨hok,_,_,([]++pa)++pv,⟨[]++pa,pv,trodAll_append (hargs _ (λ_ _=>rfl)) (hres _ _ _),hvars _ (λ_ _=>rfl),rfl,?_,?_⟩,?_⟩
  ·intro b off hp
   have hin:MemPlace.cell b off∈before:=by rw[hps]; simpa using hp
   rw[hb.frozen (hlt _ hin)]
   exact hz b off hin
  ·intro ha
   have:=hn ha
   rw[hps]at this
   simpa using this
  ·intro p hp _
   rw[hps]
   simpa using hp
end
end Wx

namespace Wx
open Go Go.RowKit Go.Proofs Go.ChangeShapes Go.WideShapes Go.ChangeAt
section
variable {H:Type} {enc:TypeId×Value->H} {P:Program} {w w':World} {held:Bool} {sp:Nat->Bool}
theorem fO {α β:Type} {f f':α->Option β}:∀{l:List α} {r:List β},l.mapM f=some r->(∀x∈l,∀y,f x=some y->y∈r->f' x=some y)->l.mapM f'=some r
 |[],r,h,_=>h
 |x::l,r,h,hk=>by
  rw[List.mapM_cons]at h ⊢
  simp only[bind,pure,Option.bind_eq_some_iff,Option.some.injEq]at h ⊢
  obtain⟨y,h1,r',h2,rfl⟩:=h
  exact⟨y,hk x (List.mem_cons_self ..) y h1 (List.mem_cons_self ..),r',fO h2 λx hx y hy hm=>hk x (List.mem_cons_of_mem _ hx) y hy (List.mem_cons_of_mem _ hm),rfl⟩
theorem Dg (hw:∀k,k<w.heap.size->w'.heap[k]?=w.heap[k]?) {a:Addr} {v:Value} (h:w.cell? a=some v):w'.cell? a=some v:=by
 rw[World.cell?_of_block (w:=w) (hw _ (World.block_lt_of_cell? w _ h))]
 exact h
theorem Ao (hw:∀k,k<w.heap.size->w'.heap[k]?=w.heap[k]?) {b n:Nat} {a:Addr} {cs:List Value} (h:w.cells? b a n=some cs):w'.cells? b a n=some cs:=by
 unfold World.cells? at h ⊢
 split at h
 ·rename_i hb
  rw[if_pos hb]
  exact fO h λx _ y hy _=>Dg hw hy
 ·cases h
def od (P:Program):Nat->TypeId->Bool
 |0,_=>false
 |n+1,t=>match P.underlying t with
  |some (.pointer e)=>od P n e
  |some (.slice e)=>decide (0<P.cellsOf e)&&od P n e
  |some (.struct fs)=>fs.toList.all λf=>od P n f.type
  |some (.array _ e)=>od P n e
  |some (.map _ e)=>od P n e
  |_=>true
theorem lq {α β:Type} {x:α×List β} {l:List (α×List β)} (h:x∈l) {p:β} (hp:p∈x.2):p∈l.flatMap (·.2):=List.mem_flatMap.2 ⟨x,h,hp⟩
theorem vI (hw:∀k,k<w.heap.size->w'.heap[k]?=w.heap[k]?):
  ∀(fuel n:Nat) (t:TypeId),od P n t=true->∀(cs:List Value) (x:DataW H×List MemPlace),DataW.trod enc P w 0 (λ_=>true) true fuel t cs=some x->(∀p∈x.2,sp p.block=true)->DataW.trod enc P w' 0 sp true fuel t cs=some x
 |0,_,_,_,_,_,h,_=>by simp[DataW.trod]at h
 |_+1,0,_,hk,_,_,_,_=>by cases hk
 |fuel+1,n0+1,t,hk,cs,x,h,hx=>by
  have ih:=vI hw fuel n0
  unfold od at hk
  have Fy:∀{a:Addr} {n:Nat} {e:TypeId} {y:DataW H×List MemPlace},od P n0 e=true->(w.cells? 0 a n).bind (DataW.trod enc P w 0 (λ_=>true) true fuel e)=some y->(∀p∈y.2,sp p.block=true)->(w'.cells? 0 a n).bind (DataW.trod enc P w' 0 sp true fuel e)=some y:=by
   intro a n e y hke h hy
   obtain⟨cs,h1,h2⟩:=Option.bind_eq_some_iff.1 h
   exact Option.bind_eq_some_iff.2 ⟨cs,Ao hw h1,ih _ hke _ _ h2 hy⟩
  unfold DataW.trod at h ⊢
  split at h
  case h_6 e a ht=>
   simp only[ht]at hk
   obtain⟨y,h1,rfl⟩:=Option.map_eq_some_iff.1 h
   exact Option.map_eq_some_iff.2 ⟨y,Fy hk h1 λp hp=>hx p (List.mem_append.2 (.inr hp)),rfl⟩
  case h_8 e a len cap ht=>
   simp only[ht,Bool.and_eq_true,decide_eq_true_eq]at hk
   simp only at h ⊢
   split at h
   ·rename_i hc
    rw[if_pos hc]
    simp only[Option.bind_eq_some_iff,Option.map_eq_some_iff,if_true]at h
    obtain⟨elems,he,rest,hr,rfl⟩:=h
    have hlr:rest.length=cap-len:=by simpa using mapM_some_length hr
    have hle:elems.length=len:=by simpa using mapM_some_length he
    have hs:cap=len\/sp a.block=true:=by
     rcases Nat.lt_or_ge 0 cap with h0|h0
     ·right
      have Wk:=hk.1
      have:=hx (.cell a.block (a.off+0)) (List.mem_append.2 (.inl (List.mem_map.2 ⟨0,by
       simp only[List.mem_range]
       have:0<elems.length+rest.length:=by omega
       exact Nat.mul_pos this Wk,rfl⟩)))
      exact this
     ·left
      omega
    have e1:=fO he (f':=λi=>(w'.cells? 0 (a.add (i*P.cellsOf e)) (P.cellsOf e)).bind (DataW.trod enc P w' 0 sp true fuel e)) λi _ y hy hm=>Fy hk.2 hy λp hp=>hx p (List.mem_append.2 (.inr (lq (List.mem_append.2 (.inl hm)) hp)))
    have e2:=fO hr (f':=λj=>(w'.cells? 0 (a.add ((len+j)*P.cellsOf e)) (P.cellsOf e)).bind (DataW.trod enc P w' 0 sp true fuel e)) λi _ y hy hm=>Fy hk.2 hy λp hp=>hx p (List.mem_append.2 (.inr (lq (List.mem_append.2 (.inr hm)) hp)))
    rw[e1]
    simp only[Option.bind_some]
    rcases hs with hs|hs
    ·have h0:rest=[]:=List.eq_nil_of_length_eq_zero (by omega)
     subst h0
     split
     ·rw[e2]; rfl
     ·rfl
    ·rw[if_pos hs,e2]
     rfl
   ·cases h
  case h_9 fs ht=>
   simp only[ht,List.all_eq_true]at hk
   split at h
   ·rename_i hc
    rw[if_pos hc]
    obtain⟨xs,h1,rfl⟩:=Option.map_eq_some_iff.1 h
    exact Option.map_eq_some_iff.2 ⟨xs,fO h1 λf hf y hy hm=>ih _ (hk f hf) _ _ hy λp hp=>hx p (lq hm hp),rfl⟩
   ·cases h
  case h_10 n e ht=>
   simp only[ht]at hk
   split at h
   ·rename_i hc
    rw[if_pos hc]
    obtain⟨xs,h1,rfl⟩:=Option.map_eq_some_iff.1 h
    exact Option.map_eq_some_iff.2 ⟨xs,fO h1 λf _ y hy hm=>ih _ hk _ _ hy λp hp=>hx p (lq hm hp),rfl⟩
   ·cases h
  case h_14 k e b ht=>
   simp only[ht]at hk
   split at h
   ·rename_i es clock hb
    have hb':w'.heap[b]?=some (.map es clock):=by
     rw[hw b (by
      rcases Nat.lt_or_ge b w.heap.size with h'|h'
      ·exact h'
      ·rw[Array.getElem?_eq_none h']at hb; cases hb)]
     exact hb
    simp only[hb']
    split at h
    ·rename_i hc
     rw[if_pos hc]
     obtain⟨entries,h1,h2⟩:=Option.bind_eq_some_iff.1 h
     have hx':∀y∈entries,∀p∈y.2,sp p.block=true:=λy hy p hp=>by
      simp only at h2
      split at h2
      ·obtain rfl:=Option.some.inj h2
       exact hx p (List.mem_cons_of_mem _ (lq hy hp))
      ·cases h2
     refine Option.bind_eq_some_iff.2 ⟨entries,fO h1 λz _ y hy hm=>?_,h2⟩
     obtain⟨key,k1,k2⟩:=Option.bind_eq_some_iff.1 hy
     refine Option.bind_eq_some_iff.2 ⟨key,k1,?_⟩
     split at k2
     ·rename_i hf
      rw[if_pos hf]
      obtain⟨y',k3,rfl⟩:=Option.map_eq_some_iff.1 k2
      exact Option.map_eq_some_iff.2 ⟨y',ih _ hk _ _ k3 λp hp=>hx' _ hm p hp,rfl⟩
     ·cases k2
    ·cases h
   ·cases h
  all_goals exact h
theorem oU (hw:∀k,k<w.heap.size->w'.heap[k]?=w.heap[k]?) (n:Nat):∀{ts:List TypeId} {vs:List Value} {ds:List (DataW H)} {p:List MemPlace},(ts.all (od P n))=true->DataW.TrodAll enc P w 0 (λ_=>true) true ts vs ds p->(∀q∈p,sp q.block=true)->DataW.TrodAll enc P w' 0 sp true ts vs ds p
 |[],[],[],_,_,h,_=>h
 |t::ts,v::vs,d::ds,p,hk,⟨p1,p2,⟨fuel,h1⟩,h2,e⟩,hs=>by
  subst e
  rw[List.all_cons,Bool.and_eq_true]at hk
  exact⟨p1,p2,⟨fuel,vI hw fuel n _ hk.1 _ _ h1 λq hq=>hs q (List.mem_append.2 (.inl hq))⟩,oU hw n hk.2 h2 λq hq=>hs q (List.mem_append.2 (.inr hq)),rfl⟩
 |[],[],_::_,_,_,h,_=>h.elim
 |[],_::_,_,_,_,h,_=>h.elim
 |_::_,[],_,_,_,h,_=>h.elim
 |_::_,_::_,[],_,_,h,_=>h.elim
end
end Wx

namespace Wx
def sj (b:Nat):Nat->Nat->List Nat
 |0,_=>[]
 |f+1,n=>if n=0 then[]else n%b::sj b f (n/b)
def af (b n:Nat):List Nat:=sj b n n
def val (b:Nat):List Nat->Nat
 |[]=>0
 |x::l=>x+b*val b l
def Wf (b:Nat) (l:List Nat):Prop:=∀x∈l,x<b
theorem Wf.nil (b:Nat):Wf b []:=λ_ h=>absurd h (List.not_mem_nil)
variable {b x:Nat} {l:List Nat}
theorem Wf.cons (hx:x<b) (h:Wf b l):Wf b (x::l):=by
 intro y hy
 rcases List.mem_cons.1 hy with rfl|h'
 ·exact hx
 ·exact h y h'
variable {r:List Nat}
theorem Wf.append (h:Wf b l) (k:Wf b r):Wf b (l++r):=by
 intro y hy
 rcases List.mem_append.1 hy with h'|h'
 ·exact h y h'
 ·exact k y h'
theorem Wf.take (h:Wf b l) (n:Nat):Wf b (l.take n):=λx hx=>h x (List.mem_of_mem_take hx)
theorem Wf.drop (h:Wf b l) (n:Nat):Wf b (l.drop n):=λx hx=>h x (List.mem_of_mem_drop hx)
theorem Wf.get (h:Wf b l) {i:Nat} (hi:i<l.length):l[i]<b:=h _ (List.getElem_mem hi)
theorem Wf.replicate (hb:0<b) (n:Nat):Wf b (List.replicate n 0):=by
 intro x hx
 rw[(List.mem_replicate.1 hx).2]; exact hb
theorem Wf.set (h:Wf b l) {i x:Nat} (hx:x<b):Wf b (l.set i x):=by
 intro y hy
 rcases List.mem_or_eq_of_mem_set hy with h'|h'
 ·exact h y h'
 ·rw[h']; exact hx
theorem JW (b:Nat):val b []=0:=rfl
theorem tR (b x:Nat) (l:List Nat):val b (x::l)=x+b*val b l:=rfl
theorem iH (b:Nat) (l r:List Nat):val b (l++r)=val b l+b^l.length*val b r:=by
 induction l with
 |nil=>simp[val]
 |cons x l ih=>
  simp only[List.cons_append,val,ih,List.length_cons,Nat.pow_succ]
  rw[Nat.mul_add,<-Nat.add_assoc]
  congr 1
  rw[<-Nat.mul_assoc,Nat.mul_comm b (b^l.length)]
theorem mH (b n:Nat):val b (List.replicate n 0)=0:=by
 induction n with
 |zero=>rfl
 |succ n ih=>simp[List.replicate_succ,val,ih]
theorem ji (h:Wf b l):val b l<b^l.length:=by
 induction l with
 |nil=>simp[val]
 |cons x l ih=>
  have hx:x<b:=h x (List.mem_cons_self)
  have hl:=ih (λy hy=>h y (List.mem_cons_of_mem _ hy))
  simp only[val,List.length_cons,Nat.pow_succ]
  have:b*val b l+b<=b^l.length*b:=by
   have:=Nat.mul_le_mul_left b (Nat.succ_le_of_lt hl)
   rw[Nat.mul_succ]at this
   rw[Nat.mul_comm (b^l.length) b]; exact this
  omega
theorem jj (b:Nat) (l:List Nat) (i:Nat) (h:i<l.length):val b (l.take (i+1))=val b (l.take i)+b^i*l[i]:=by
 rw[List.take_succ_eq_append_getElem h,iH,List.length_take,Nat.min_eq_left (Nat.le_of_lt h)]
 simp[val]
theorem lM (b:Nat) (l:List Nat) (x:Nat):val b (l++[x])=val b l+b^l.length*x:=by
 rw[iH]; simp[val]
theorem bQ (b:Nat) (l:List Nat) (i:Nat) (h:i<=l.length):val b l=val b (l.take i)+b^i*val b (l.drop i):=by
 have:=iH b (l.take i) (l.drop i)
 rw[List.take_append_drop,List.length_take,Nat.min_eq_left h]at this
 exact this
theorem tS (b:Nat) (l:List Nat) (i:Nat) (h:i<l.length):val b (l.drop i)=l[i]+b*val b (l.drop (i+1)):=by
 rw[List.drop_eq_getElem_cons h]; rfl
theorem jL (b f:Nat):sj b f 0=[]:=by cases f<;>rfl
theorem Aw (hb:2<=b):∀(f g n:Nat),n<=f->n<=g->sj b f n=sj b g n:=by
 intro f
 induction f with
 |zero=>
  intro g n hf hg
  obtain rfl:n=0:=by omega
  rw[jL,jL]
 |succ f ih=>
  intro g n hf hg
  cases g with
  |zero=>
   obtain rfl:n=0:=by omega
   rw[jL,jL]
  |succ g=>
   by_cases h0:n=0
   ·subst h0; rfl
   ·simp only[sj,if_neg h0]
    have:n/b<n:=Nat.div_lt_self (by omega) (by omega)
    rw[ih g (n/b) (by omega) (by omega)]
theorem bk (b:Nat):af b 0=[]:=rfl
variable {n:Nat}
theorem fh (hb:2<=b) (hn:0<n):af b n=n%b::af b (n/b):=by
 unfold af
 cases n with
 |zero=>omega
 |succ n=>
  have:(n+1)/b<n+1:=Nat.div_lt_self (by omega) (by omega)
  simp only[sj,if_neg (Nat.succ_ne_zero n)]
  rw[Aw hb n ((n+1)/b) _ (by omega) (Nat.le_refl _)]
theorem cS (hb:2<=b):∀n,Wf b (af b n):=by
 intro n
 induction n using Nat.strongRecOn with
 |_ n ih=>
  by_cases h0:n=0
  ·subst h0; exact Wf.nil b
  ·rw[fh hb (by omega)]
   exact Wf.cons (Nat.mod_lt _ (by omega)) (ih _ (Nat.div_lt_self (by omega) (by omega)))
theorem bM (hb:2<=b):∀n,val b (af b n)=n:=by
 intro n
 induction n using Nat.strongRecOn with
 |_ n ih=>
  by_cases h0:n=0
  ·subst h0; rfl
  ·rw[fh hb (by omega),val,ih _ (Nat.div_lt_self (by omega) (by omega))]
   exact Nat.mod_add_div n b
def qV (l:List Nat):Prop:=l.getLast?≠some 0
theorem qV.nil:qV []:=by simp[qV]
theorem nO (hb:2<=b):∀{l:List Nat},Wf b l->qV l->af b (val b l)=l:=by
 intro l
 induction l with
 |nil=>intro _ _; rfl
 |cons x l ih=>
  intro hw ht
  have hx:x<b:=hw x (List.mem_cons_self)
  have UD:Wf b l:=λy hy=>hw y (List.mem_cons_of_mem _ hy)
  by_cases hl:l=[]
  ·subst hl
   have hx0:x≠0:=by simpa [qV] using ht
   have e:val b [x]=x:=by simp[val]
   rw[e,fh hb (by omega),Nat.mod_eq_of_lt hx,Nat.div_eq_of_lt hx,bk]
  ·have PC:qV l:=by
    unfold qV at ht ⊢
    rwa [List.getLast?_cons_of_ne_nil hl]at ht
   have SZ:=ih UD PC
   have hv:0<val b l:=by
    rcases Nat.eq_zero_or_pos (val b l)with h|h
    ·rw[h,bk]at SZ; exact absurd SZ.symm hl
    ·exact h
   have hpos:0<val b (x::l):=by
    have:0<b*val b l:=Nat.mul_pos (by omega) hv
    rw[val]; omega
   rw[fh hb hpos,val]
   have e1:(x+b*val b l)%b=x:=by rw[Nat.add_mul_mod_self_left,Nat.mod_eq_of_lt hx]
   have e2:(x+b*val b l)/b=val b l:=by rw[Nat.add_mul_div_left _ _ (by omega),Nat.div_eq_of_lt hx,Nat.zero_add]
   rw[e1,e2,SZ]
theorem nN (hb:2<=b):∀n,qV (af b n):=by
 intro n
 induction n using Nat.strongRecOn with
 |_ n ih=>
  by_cases h0:n=0
  ·subst h0; exact qV.nil
  ·rw[fh hb (by omega)]
   by_cases hq:n/b=0
   ·rw[hq,bk]
    have:n<b:=by
     rcases Nat.lt_or_ge n b with h|h
     ·exact h
     ·have h1:=Nat.div_pos h (by omega); rw[hq]at h1; exact absurd h1 (Nat.lt_irrefl 0)
    simp[qV,Nat.mod_eq_of_lt this,h0]
   ·have hne:af b (n/b)≠[]:=by rw[fh hb (Nat.pos_of_ne_zero hq)]; simp
    unfold qV
    rw[List.getLast?_cons_of_ne_nil hne]
    exact ih _ (Nat.div_lt_self (by omega) (by omega))
theorem wm (hb:2<=b):af b n=[]↔n=0:=by
 constructor
 ·intro h
  have:=bM hb n
  rw[h]at this; exact this.symm
 ·rintro rfl; rfl
theorem aX (hb:2<=b):0<(af b n).length↔0<n:=by
 rw[List.length_pos_iff,ne_eq,wm hb]; omega
theorem sk (hb:2<=b) (h0:0<n) (h:n<b):af b n=[n]:=by
 rw[fh hb h0,Nat.mod_eq_of_lt h,Nat.div_eq_of_lt h,bk]
theorem fg (hb:2<=b) {n k:Nat} (h:n<b^k):(af b n).length<=k:=by
 induction k generalizing n with
 |zero=>
  obtain rfl:n=0:=by simpa using h
  simp[bk]
 |succ k ih=>
  by_cases h0:n=0
  ·subst h0; simp[bk]
  ·rw[fh hb (by omega),List.length_cons]
   have:n/b<b^k:=by rw[Nat.div_lt_iff_lt_mul (by omega)]; rwa [Nat.pow_succ]at h
   have:=ih this
   omega
theorem lp (hb:2<=b) (n:Nat):n<b^(af b n).length:=by
 have:=ji (cS hb n)
 rwa [bM hb]at this
theorem lD (hb:2<=b) {n:Nat} (h:0<n):b^((af b n).length-1)<=n:=by
 rcases Nat.lt_or_ge n (b^((af b n).length-1))with h'|h'
 ·have:=fg hb h'
  have:=(aX (n:=n) hb).2 h
  omega
 ·exact h'
theorem uy (hl:Wf b l) {i:Nat} (h1:i<l.length) (h2:i<r.length)
  (hd:l.drop (i+1)=r.drop (i+1)) (hlt:l[i]<r[i]):val b l<val b r:=by
 rw[bQ b l i (by omega),bQ b r i (by omega),tS b l i h1,tS b r i h2,hd]
 have hL:=ji (hl.take i)
 rw[List.length_take,Nat.min_eq_left (by omega)]at hL
 have:b^i*(l[i]+b*val b (r.drop (i+1)))+b^i<=b^i*(r[i]+b*val b (r.drop (i+1))):=by
  rw[<-Nat.mul_succ]
  exact Nat.mul_le_mul_left _ (by omega)
 omega
theorem dW (hb:2<=b) {m n:Nat} (h:(af b m).length<(af b n).length):m<n:=by
 have h1:=lp hb m
 have h2:0<n:=(aX hb).1 (by omega)
 have h3:=lD hb h2
 have:b^(af b m).length<=b^((af b n).length-1):=Nat.pow_le_pow_right (by omega) (by omega)
 omega
theorem Ff (hb:2<=b) {m n:Nat} (h:af b m=af b n):m=n:=by
 have:=congrArg (val b) h
 rwa [bM hb,bM hb]at this
theorem pc (b:Nat) (l:List Nat) (h:l.getLast?=some 0):val b l.dropLast=val b l:=by
 induction l with
 |nil=>simp at h
 |cons x l ih=>
  by_cases hl:l=[]
  ·subst hl
   have:x=0:=by simpa using h
   subst this
   simp[val]
  ·rw[List.getLast?_cons_of_ne_nil hl]at h
   rw[List.dropLast_cons_of_ne_nil hl,val,val,ih h]
theorem BL (hl:Wf b l) (h:l=[]\/b^(l.length-1)<=val b l):qV l:=by
 rcases h with rfl|h
 ·exact qV.nil
 ·intro h0
  by_cases he:l=[]
  ·subst he; simp at h0
  ·have hd:=pc b l h0
   have hw:Wf b l.dropLast:=λx hx=>hl x (List.dropLast_subset l hx)
   have:=ji hw
   rw[List.length_dropLast]at this
   omega
def Bd (k n:Nat):Prop:=n<2^k
variable {j k:Nat}
theorem Bd.mono (h:Bd j n) (hk:j<=k):Bd k n:=Nat.lt_of_lt_of_le h (Nat.pow_le_pow_right (by omega) hk)
variable {m:Nat}
theorem Bd.le (h:Bd k n) (hm:m<=n):Bd k m:=Nat.lt_of_le_of_lt hm h
theorem Bd.add (h:Bd j m) (g:Bd k n):Bd (j+k+1) (m+n):=by
 unfold Bd at *
 have h1:2^j<=2^(j+k):=Nat.pow_le_pow_right (by omega) (by omega)
 have h2:2^k<=2^(j+k):=Nat.pow_le_pow_right (by omega) (by omega)
 rw[Nat.pow_succ]
 omega
theorem Bd.mul (h:Bd j m) (g:Bd k n):Bd (j+k) (m*n):=by
 unfold Bd at *
 rw[Nat.pow_add]
 rcases Nat.eq_zero_or_pos n with rfl|hn
 ·simpa using Nat.mul_pos (Nat.two_pow_pos j) (Nat.two_pow_pos k)
 ·exact Nat.lt_of_lt_of_le (Nat.mul_lt_mul_of_pos_right h hn) (Nat.mul_le_mul_left _ (Nat.le_of_lt g))
theorem Bd.af {s k n:Nat} (hs:0<s) (h:Bd k n):(af (2^s) n).length<=k/s+1:=by
 have hb:2<=2^s:=by
  have:=Nat.pow_le_pow_right (show 0<2 by omega) (show 1<=s by omega)
  simpa using this
 refine fg hb (Nat.lt_of_lt_of_le h ?_)
 rw[<-Nat.pow_mul]
 refine Nat.pow_le_pow_right (by omega) ?_
 have:=Nat.div_add_mod k s
 have:=Nat.mod_lt k hs
 rw[Nat.mul_add]
 omega
variable {i v:Nat}
theorem bR (h:l[i]?=some v):val b (l.take (i+1))=val b (l.take i)+b^i*v:=by
 obtain⟨hi,rfl⟩:=List.getElem?_eq_some_iff.1 h
 exact jj b l i hi
theorem iO (l:List Nat) (i:Nat):val b (l.take (i+1))=val b (l.take i)+b^i*l.getD i 0:=by
 by_cases hi:i<l.length
 ·rw[jj b l i hi,List.getD_eq_getElem?_getD,List.getElem?_eq_getElem hi]; rfl
 ·rw[List.take_of_length_le (by omega),List.take_of_length_le (by omega),List.getD_eq_getElem?_getD,List.getElem?_eq_none (by omega)]; simp
variable {o y:List Nat} {c vx vy s t:Nat}
theorem G4 {x:List Nat} (ek:o.length=i) (hv:val b o+b^i*c=val b (x.take i)+val b (y.take i))
  (hx:val b (x.take (i+1))=val b (x.take i)+b^i*vx) (hy:val b (y.take (i+1))=val b (y.take i)+b^i*vy) (hs:s+b*t=vx+vy+c):
  val b (o++[s])+b^(i+1)*t=val b (x.take (i+1))+val b (y.take (i+1)):=by
 rw[lM,ek,hx,hy,Nat.pow_succ]
 have:b^i*s+b^i*b*t=b^i*(s+b*t):=by rw[Nat.mul_add,Nat.mul_assoc]
 rw[Nat.add_assoc,this,hs,Nat.mul_add,Nat.mul_add]
 omega
theorem oP (h:o.length=i) (z:Nat):(o++z::r).set i x=o++x::r:=by
 subst h; simp
theorem tT {y:Nat} (hl:Wf b l) (hx:l[i]?=some x) (hy:r[i]?=some y) (hd:l.drop (i+1)=r.drop (i+1)) (h:x<y):val b l<val b r:=by
 obtain⟨h1,rfl⟩:=List.getElem?_eq_some_iff.1 hx
 obtain⟨h2,rfl⟩:=List.getElem?_eq_some_iff.1 hy
 exact uy hl h1 h2 hd h
theorem Fh (hx:l[i]?=some x) (hy:r[i]?=some x) (hd:l.drop (i+1)=r.drop (i+1)):l.drop i=r.drop i:=by
 obtain⟨h1,rfl⟩:=List.getElem?_eq_some_iff.1 hx
 obtain⟨h2,h3⟩:=List.getElem?_eq_some_iff.1 hy
 rw[List.drop_eq_getElem_cons h1,List.drop_eq_getElem_cons h2,hd,h3]
theorem Fc {x:List Nat} (ek:o.length=i) (hv:val b o+val b (y.take i)=val b (x.take i)+b^i*c)
  (hx:val b (x.take (i+1))=val b (x.take i)+b^i*vx) (hy:val b (y.take (i+1))=val b (y.take i)+b^i*vy) (hs:s+vy+c=vx+b*t):
  val b (o++[s])+val b (y.take (i+1))=val b (x.take (i+1))+b^(i+1)*t:=by
 rw[lM,ek,hx,hy,Nat.pow_succ]
 have e1:b^i*(s+vy+c)=b^i*(vx+b*t):=by rw[hs]
 rw[Nat.mul_add,Nat.mul_add,Nat.mul_add,<-Nat.mul_assoc]at e1
 omega
variable {u:Nat}
theorem rH (h:l[i]?=some u) (v:Nat):val b (l.set i v)+b^i*u=val b l+b^i*v:=by
 induction l generalizing i with
 |nil=>simp at h
 |cons x l ih=>
  cases i with
  |zero=>
   have:x=u:=by simpa using h
   subst this
   simp only[List.set_cons_zero,val,Nat.pow_zero]
   omega
  |succ i=>
   have:=ih (i:=i) (by simpa using h)
   simp only[List.set_cons_succ,val,Nat.pow_succ]
   have e1:b*(val b (l.set i v)+b^i*u)=b*(val b l+b^i*v):=by rw[this]
   rw[Nat.mul_add,Nat.mul_add]at e1
   have c1:b^i*b*u=b*(b^i*u):=by rw[Nat.mul_comm (b^i) b,Nat.mul_assoc]
   have c2:b^i*b*v=b*(b^i*v):=by rw[Nat.mul_comm (b^i) b,Nat.mul_assoc]
   omega
theorem kR (h:i<j):(l.set i v).drop j=l.drop j:=by
 rw[List.drop_set]; rw[if_pos h]
theorem Gd {lo hi:Nat} (hv:val b o+b^(i+k)*c=s+b^i*(x*val b (y.take k)))
  (hu:o[i+k]?=some u) (hy:y[k]?=some vy) (he:lo+b*hi=x*vy+u+c):
  val b (o.set (i+k) lo)+b^(i+(k+1))*hi=s+b^i*(x*val b (y.take (k+1))):=by
 have h1:=rH (b:=b) hu lo
 rw[bR hy]
 have e:b^(i+k)*(lo+b*hi)=b^(i+k)*(x*vy+u+c):=by rw[he]
 rw[Nat.mul_add,Nat.mul_add,Nat.mul_add,<-Nat.mul_assoc,<-Nat.pow_succ]at e
 have e2:b^i*(x*(val b (y.take k)+b^k*vy))=b^i*(x*val b (y.take k))+b^(i+k)*(x*vy):=by
  rw[Nat.mul_add,Nat.mul_add,Nat.pow_add]
  congr 1
  rw[Nat.mul_assoc,Nat.mul_left_comm x]
 rw[e2,show i+(k+1)=(i+k).succ from rfl]
 omega
theorem getD_set_ne {p:Nat} (h:i≠p):(l.set i v).getD p 0=l.getD p 0:=by
 rw[List.getD_eq_getElem?_getD,List.getD_eq_getElem?_getD,List.getElem?_set_ne h]
end Wx
