import Derived.Lib.IndexLaws
import Derived.Lib.CountLaws
import Derived.Lib.SplitLaws
import Derived.Test.YtfnmkhlleanppaaGreatDoorCWFWk4
namespace Wx
open Go Go.RowKit Go.Proofs
theorem uQ (s:ByteArray) (j:Nat):Lib.occAt s.data.toList kX.data.toList j=true↔j<s.size/\bE s j=32:=by
 show List.isPrefixOf [32] (s.data.toList.drop j)=true↔_
 by_cases h:j<s.size
 ·have h':j<s.data.toList.length:=by rw[Array.length_toList]; exact h
  rw[List.drop_eq_getElem_cons h',dK h,show s[j]=s.data.toList[j]from rfl]
  generalize s.data.toList[j]=u
  show((32:UInt8)==u&&true)=true↔_
  rw[Bool.and_true,beq_iff_eq]
  constructor
  ·rintro rfl; exact⟨h,rfl⟩
  ·rintro⟨_,e⟩
   refine UInt8.toNat_inj.1 ?_
   have e:((u.toNat:Nat):Int)=32:=e
   show 32=u.toNat
   omega
 ·rw[List.drop_eq_nil_of_le (by rw[Array.length_toList]; exact Nat.not_lt.1 h)]
  exact⟨λk=>(by cases k),λk=>absurd k.1 h⟩
variable {s:ByteArray} {j:Nat}
theorem occ_no (h:bE s j≠32):Lib.occAt s.data.toList kX.data.toList j=false:=by
 cases e:Lib.occAt s.data.toList kX.data.toList j
 ·rfl
 ·exact absurd ((uQ s j).1 e).2 h
theorem kM (hj:j<s.size) (h:bE s j=32) (hn:∀k,k<j->bE s k≠32):ak s=s.extract 0 j::ak (s.extract (j+1) s.size):=by
 have hi:Lib.indexB s kX=j:=Lib.index_hit (λk hk=>occ_no (hn k hk)) (by rw[Array.length_toList]; exact Nat.le_of_lt hj) ((uQ s j).2 ⟨hj,h⟩)
 unfold ak
 rw[Lib.countB_hit s kX j (by decide) hi,Nat.add_comm,Lib.splitB_hit _ _ _ _ j hi]
 rfl
theorem kN (hn:∀k,k<s.size->bE s k≠32):ak s=[s]:=by
 have hi:Lib.indexB s kX = -1:=Lib.index_past (i:=s.size) (by decide) (λk hk=>occ_no (hn k hk)) (by rw[Array.length_toList]; exact Nat.lt_succ_self _)
 unfold ak
 exact Lib.splitB_miss _ _ _ _ hi
theorem qu (s:ByteArray):∃j,j<=s.size/\(∀k,k<j->bE s k≠32)/\(j<s.size->bE s j=32)/\s.extract 0 j∈ak s:=by
 by_cases hx:∃j,j<s.size/\bE s j=32
 ·have key:∀n,(∃j,j<n/\j<s.size/\bE s j=32)->∃j,j<s.size/\bE s j=32/\∀k,k<j->bE s k≠32:=by
   intro n
   induction n with
   |zero=>rintro⟨j,h,_⟩; omega
   |succ n ih=>
    rintro⟨j,h1,h2,h3⟩
    by_cases e:∃j,j<n/\j<s.size/\bE s j=32
    ·exact ih e
    ·exact⟨j,h2,h3,λk hk hk2=>e ⟨k,by omega,by omega,hk2⟩⟩
  obtain⟨j,h1⟩:=hx
  obtain⟨j,h1,h2,h3⟩:=key s.size ⟨j,h1.1,h1⟩
  exact⟨j,Nat.le_of_lt h1,h3,λ_=>h2,by rw[kM h1 h2 h3]; exact List.mem_cons_self⟩
 ·have hn:∀k,k<s.size->bE s k≠32:=λk h1 h2=>hx ⟨k,h1,h2⟩
  refine⟨s.size,Nat.le_refl _,hn,λh=>absurd h (Nat.lt_irrefl _),?_⟩
  rw[kN hn,ByteArray.extract_zero_size]
  exact List.mem_singleton.2 rfl
theorem tC {φ:Int->Bool} (h:fU φ s=true) {k:Nat} (hk:k<s.size):φ (bE s k)=true:=by
 unfold fU at h
 simp only[Bool.and_eq_true,decide_eq_true_eq]at h
 exact h.1 k hk
structure jS (s:ByteArray) (i m o:Nat):Prop where
 le:i<=s.size+1
 words:∀q,q<m->fU dh ((ak s).getD q ⟨#[]⟩)=true
 DM:m<=i
 mid:i<=s.size->o<=i/\(ak s).drop m=ak (s.extract o s.size)/\∀k,o<=k->k<i->dh (bE s k)=true
 fin:i=s.size+1->m=(ak s).length
theorem Bg (s:ByteArray):jS s 0 0 0:=⟨Nat.zero_le _,λ_ h=>absurd h (Nat.not_lt_zero _),Nat.le_refl _,λ_=>⟨Nat.le_refl _,by rw[ByteArray.extract_zero_size]; rfl,λ_ _ h=>absurd h (Nat.not_lt_zero _)⟩,λh=>by omega⟩
variable {i m o:Nat}
theorem xU (h:jS s i m o) (hi:i<s.size) (hc:dh (bE s i)=true):jS s (i+1) m o:=by
 obtain⟨h1,h2,h3⟩:=h.mid (Nat.le_of_lt hi)
 refine⟨by omega,h.words,by have:=h.DM; omega,λ_=>⟨by omega,h2,λk h4 h5=>?_⟩,λe=>by omega⟩
 by_cases e:k=i
 ·rw[e]; exact hc
 ·exact h3 k h4 (by omega)
theorem qY {x:Int} (h:dh x=true):x≠32:=by
 rintro rfl
 cases h
theorem xV (h:jS s i m o) (hi:i<=s.size) (hc:(i<s.size/\bE s i≠32/\dh (bE s i)=false)\/(i=o/\(i<s.size->dh (bE s i)=false))):bg s=false:=by
 obtain⟨h1,h2,h3⟩:=h.mid hi
 cases hl:bg s
 ·rfl
 ·exfalso
  obtain⟨j,k1,k2,k3,k4⟩:=qu (s.extract o s.size)
  have hmem:(s.extract o s.size).extract 0 j∈ak s:=List.mem_of_mem_drop (by rw[h2]; exact k4)
  unfold bg at hl
  rw[decide_eq_true_eq]at hl
  have hw:=hl _ hmem
  rw[gp,Nat.add_zero]at hw
  have hp:=gF hw
  rw[ByteArray.size_extract]at hp k1 k3
  have hat:∀r,r<j->dh (bE s (o+r))=true:=λr hr=>by
   have hr2:r<(s.extract o (o+j)).size:=by rw[ByteArray.size_extract]; omega
   have:=tC hw hr2
   rwa [ir hr2]at this
  have hj:¬i-o<j:=λhr=>by
   have e:=hat _ hr
   rw[show o+(i-o)=i by omega]at e
   rcases hc with⟨c1,c2,c3⟩|⟨c1,c2⟩
   ·rw[c3]at e; cases e
   ·rw[c2 (by omega)]at e; cases e
  have hb:=k3 (by omega)
  rw[eZ]at hb
  rcases Nat.lt_or_ge (o+j) i with e|e
  ·exact qY (h3 _ (by omega) e) hb
  ·rcases hc with⟨c1,c2,c3⟩|⟨c1,c2⟩
   ·exact c2 (by rw[show i=o+j by omega]; exact hb)
   ·omega
theorem vK (h:jS s i m o) (hi:i<=s.size) (hc:i<s.size->bE s i=32) (ho:i≠o):jS s (i+1) (m+1) (i+1)/\(ak s).getD m ⟨#[]⟩=s.extract o i:=by
 obtain⟨h1,h2,h3⟩:=h.mid hi
 have hsz:(s.extract o s.size).size=s.size-o:=by rw[ByteArray.size_extract]; omega
 have hno:∀k,k<i-o->bE (s.extract o s.size) k≠32:=λk hk=>by
  rw[eZ]
  exact qY (h3 _ (by omega) (by omega))
 have D3:∃r,(ak s).drop m=s.extract o i::r/\(i<s.size->r=ak (s.extract (i+1) s.size))/\(i=s.size->r=[]):=by
  rcases Nat.lt_or_ge i s.size with e|e
  ·refine⟨_,?_,λ_=>rfl,λe'=>by omega⟩
   rw[h2,kM (j:=i-o) (by omega) (by rw[eZ,show o+(i-o)=i by omega]; exact hc e) hno,gp,hsz,gp,Nat.add_zero,show o+(i-o)=i by omega,show o+(i-o+1)=i+1 by omega,show o+(s.size-o)=s.size by omega]
  ·refine⟨[],?_,λe'=>by omega,λ_=>rfl⟩
   rw[h2,kN (λk hk=>hno k (by omega)),show i=s.size by omega]
 obtain⟨r,hr,hr1,hr2⟩:=D3
 have uh:(ak s).getD m ⟨#[]⟩=s.extract o i:=by
  have:=congrArg (λl:List ByteArray=>l[0]?) hr
  simp only[List.getElem?_drop,Nat.add_zero,List.getElem?_cons_zero]at this
  rw[List.getD_eq_getElem?_getD,this]
  rfl
 have yo:(ak s).drop (m+1)=r:=by
  rw[<-List.drop_drop,hr]
  rfl
 refine⟨⟨by omega,λq hq=>?_,by have:=h.DM; omega,λhi2=>⟨Nat.le_refl _,by rw[yo,hr1 (by omega)],λk a b=>by omega⟩,λe=>?_⟩,uh⟩
 ·by_cases e:q=m
  ·rw[e,uh]
   unfold fU
   rw[Bool.and_eq_true,decide_eq_true_eq,decide_eq_true_eq]
   refine⟨λk hk=>?_,λe=>?_⟩
   ·rw[ir hk]
    rw[ByteArray.size_extract]at hk
    exact h3 _ (by omega) (by omega)
   ·have:=congrArg ByteArray.size e
    rw[ByteArray.size_extract]at this
    have h0:(⟨#[]⟩:ByteArray).size=0:=rfl
    omega
  ·exact h.words q (by omega)
 ·have h5:=hr2 (by omega)
  have h6:=congrArg List.length yo
  have h7:=congrArg List.length hr
  rw[h5]at h6 h7
  rw[List.length_drop]at h6 h7
  simp only[List.length_cons,List.length_nil]at h6 h7
  omega
theorem vL (h:jS s i m o) (hi:i=s.size+1):bg s=true/\m=(ak s).length:=by
 have hm:=h.fin hi
 refine⟨?_,hm⟩
 unfold bg
 rw[decide_eq_true_eq]
 intro w hw
 obtain⟨k,hk,rfl⟩:=List.mem_iff_getElem.1 hw
 have:=h.words k (by omega)
 rwa [List.getD_eq_getElem?_getD,List.getElem?_eq_getElem hk]at this
def hU (s:ByteArray):List ByteArray:=if bg s=true then ak s else[]
theorem my (s:ByteArray):((hU s).length=0)↔bg s=false:=by
 unfold hU
 cases h:bg s
 ·exact⟨λ_=>rfl,λ_=>rfl⟩
 ·rw[if_pos rfl,cx]
  exact⟨λk=>by omega,λk=>by cases k⟩
theorem xW (h:((decide ((i:Int)<s.size)&&decide (bE s i>=33))&&decide (bE s i<=126))=true):i<s.size/\dh (bE s i)=true:=by
 simp only[Bool.and_eq_true,decide_eq_true_eq]at h
 refine⟨by omega,?_⟩
 unfold dh
 simp only[Bool.and_eq_true,decide_eq_true_eq]
 omega
theorem mw (h:((decide ((i:Int)<s.size)&&decide (bE s i>=33))&&decide (bE s i<=126))=false) (hi:i<s.size):dh (bE s i)=false:=by
 cases e:dh (bE s i)
 ·rfl
 ·exfalso
  unfold dh at e
  simp only[Bool.and_eq_true,decide_eq_true_eq]at e
  rw[decide_eq_true (show(i:Int)<s.size by omega),decide_eq_true (show bE s i>=33 by omega),decide_eq_true (show bE s i<=126 by omega)]at h
  cases h
theorem xX (hk:jS s i m o) (hi:i<=s.size) (h2:((decide ((i:Int)<s.size)&&decide (bE s i>=33))&&decide (bE s i<=126))=false) (h3:((decide ((i:Int)<s.size)&&decide (bE s i≠32))||decide ((i:Int)=o))=true):bg s=false:=by
 refine xV hk hi ?_
 simp only[Bool.or_eq_true,Bool.and_eq_true,decide_eq_true_eq]at h3
 rcases h3 with h3|h3
 ·exact .inl ⟨by omega,h3.2,mw h2 (by omega)⟩
 ·exact .inr ⟨by omega,mw h2⟩
theorem vM (hk:jS s i m o) (hi:i<=s.size) (h3:((decide ((i:Int)<s.size)&&decide (bE s i≠32))||decide ((i:Int)=o))=false):jS s (i+1) (m+1) (i+1)/\(ak s).getD m ⟨#[]⟩=s.extract o i:=by
 simp only[Bool.or_eq_false_iff,Bool.and_eq_false_iff,decide_eq_false_iff_not,Decidable.not_not]at h3
 exact vK hk hi (λh=>by rcases h3.1 with h4|h4<;>omega) (by omega)
theorem qG (h:bg s=true):hU s=ak s:=if_pos h
theorem tc (h:bg s=false):hU s=[]:=if_neg (by rw[h]; exact Bool.false_ne_true)
end Wx

namespace Wx
open Go Go.RowKit Go.Proofs
set_option linter.unusedVariables false
section
variable {P:Program} {c:bO} {V:List Vr} {G:List aK} {a:Act} {w:World} {d:Nat} {x y:Operand} {ty:TypeId} {pos:String} {ax:Array Edge}{T:TypeId}
theorem aS.BG {β:Nat->Nat->Prop} {id n:Nat} {cs:List Value} {f:Nat->Pred} {w':World} (h:aS c V [] G none_ β a w) (hw:w'=w.alloc (.cells cs.toArray T)) (hl:cs.length=n) (lu:∀u∈cs,dx u) (hmx:n<=maxLen) (hf:∀k u,cs[k]?=some u->∀w,f k w u) (hd:d<c.N)
  (hV:(V.all λy=>(y.slot != d&&y.id != id)&&(y.born.isNone&&y.dead.isNone))=true) (hG:(G.all λe=>e.slot != d)=true):
  Inv c (Gz id d n 1 T::V) [] (⟨none,none,d,az 1 false n f⟩::G) none_ (a.put (some d) (.slice (some ⟨w.heap.size,0,none⟩) n n)) w':=by
 have hV:∀y,y∈V->(y.slot≠d/\y.id≠id)/\live none_ y=true:=λy hy=>by
  rw[List.all_eq_true]at hV
  have:=hV y hy
  simp only[Bool.and_eq_true,bne_iff_ne]at this
  refine⟨this.1,?_⟩
  unfold live
  cases hb:y.born with
  |some j=>rw[hb]at this; cases this.2.1
  |none=>cases hd:y.dead with
   |some j=>rw[hd]at this; cases this.2.2
   |none=>rfl
 have hG:∀e,e∈G->e.slot≠d:=λe he=>by
  rw[List.all_eq_true]at hG
  simpa using hG e he
 have hb:Below w.heap.size w w':=by rw[hw]; exact Below.alloc (Below.refl _ _) (Nat.le_refl _) _
 have eT:w'.heap[w.heap.size]?=some (.cells cs.toArray T (0,0)):=by rw[hw]; exact heap_alloc_new _ _
 have hsz:w.heap.size<w'.heap.size:=by rw[hw]; simp
 have hcell:∀k u,cs[k]?=some u->w'.cell? ⟨w.heap.size,k,none⟩=some u:=λk u hk=>by
  simp only[World.cell?,eT]
  simpa using hk
 let β':Nat->Nat->Prop:=λs=>if s=id then(·=w.heap.size)else β s
 have hβ:∀y,y∈V->β' y.id=β y.id:=λy hy=>if_neg (hV y hy).1.2
 have jY:β' id=(·=w.heap.size):=if_pos rfl
 have hlo:(Gz id d n 1 T).lo=n:=by show n*1=n; omega
 have e3:Ext (own c V none_ β) w w':=Ext.aX hb
 have hown:∀k j,k<w.heap.size->own c (Gz id d n 1 T::V) none_ β' k j->own c V none_ β k j:=by
  rintro k j hk (h1|⟨y,hy,h1,h2,h3⟩)
  ·exact .inl h1
  ·rcases List.mem_cons.1 hy with rfl|hy
   ·have h2:β' id k:=h2
    rw[jY]at h2
    exact absurd h2 (Nat.ne_of_lt hk)
   ·rw[hβ y hy]at h2
    exact .inr ⟨y,hy,h1,h2,h3⟩
 have hnew:∀j,j<n->¬own c (Gz id d n 1 T::V) none_ β' w.heap.size j:=by
  rintro j hj (h1|⟨y,hy,h1,h2,h3⟩)
  ·exact absurd (gV h (.inl h1)) (Nat.lt_irrefl _)
  ·rcases List.mem_cons.1 hy with rfl|hy
   ·rw[hlo]at h3; omega
   ·rw[hβ y hy]at h2
    exact absurd (bD h hy h1 h2) (Nat.lt_irrefl _)
 have sd:∀s,s≠d->sl (a.put (some d) (.slice (some ⟨w.heap.size,0,none⟩) n n)) s=sl a s:=λs hs=>bk λe=>hs (Option.some.inj e).symm
 refine⟨β',by rw[dw]; exact h.size,by rw[put_defers]; exact h.defers,h.below.trans (cY.aX hb),h.fM λk hk hn=>hb.block k (Nat.lt_of_lt_of_le hk h.below.size),?_,?_,(λp hp=>by cases hp),?_⟩
 ·intro y hy _
  rcases List.mem_cons.1 hy with rfl|hy
  ·refine(bp rfl).2 (.inr ⟨w.heap.size,n,cs,λk=>?_,?_,.inl h.below.size,eT,by omega,Nat.le_refl _,hmx,lu⟩)
   ·show β' id k↔_
    rw[jY]
   ·exact cH (by rw[h.size]; exact hd)
  ·have yD:=(hV y hy).2
   refine(h.var y hy yD).keep (sd _ (hV y hy).1.1) (hβ y hy) (λg hg=>hb.block g (bD h hy yD hg)) hb.size (λF hF=>bY e3 hown hF) (λF hF=>?_) rfl
   refine bY (M:=minus (own c V none_ β) (β y.id)) (Ext.aX hb) ?_ hF
   rintro k j hk ⟨h1,h2⟩
   exact⟨hown k j hk h1,h2⟩
 ·intro y y' g hy hy' _ _ hne
  rcases List.mem_cons.1 hy with rfl|hy<;>rcases List.mem_cons.1 hy' with rfl|hy'
  ·exact absurd rfl hne
  ·intro h1 h2
   have h1:β' id g:=h1
   rw[jY]at h1
   rw[hβ y' hy']at h2
   exact absurd (bD h hy' (hV y' hy').2 h2) (by have h1:g=_:=h1; omega)
  ·intro h1 h2
   have h2:β' id g:=h2
   rw[jY]at h2
   rw[hβ y hy]at h1
   exact absurd (bD h hy (hV y hy).2 h1) (by have h2:g=_:=h2; omega)
  ·rw[hβ y hy,hβ y' hy']
   exact h.apart y y' g hy hy' (hV y hy).2 (hV y' hy').2 hne
 ·intro e he _ _
  rcases List.mem_cons.1 he with rfl|he
  ·refineλw'' hx=>?_
   show az 1 false n f w'' (sl (a.put (some d) _) d)
   rw[cH (by rw[h.size]; exact hd)]
   refine⟨_,n,rfl,Nat.le_refl _,hmx,λ_=>⟨w.heap.size,0,rfl,λk hk=>?_⟩⟩
   have hk':k<cs.length:=by omega
   refine⟨[cs[k]],rfl,λj u hj=>?_,hf k _ (List.getElem?_eq_getElem hk') _⟩
   match j,hj with
   |0,hj=>
    injection hj with hj
    subst hj
    rw[show 0+k*1+0=k by omega]
    exact hx.cell _ _ _ (hnew k hk) (hcell k _ (List.getElem?_eq_getElem hk'))
  ·have:=h.gm e he ?_ ?_
   ·show aN _ (λw=>e.p w (sl (a.put (some d) _) e.slot)) w'
    rw[sd _ (hG e he)]
    exact bY e3 hown this
   ·rename_i ho hf
    exact ho
   ·rename_i ho hf
    exact hf
theorem Dz {ops:Array Oper} (E:TypeId) {m n:Int} (ht:eO P T E 1:=by exact⟨by kernel_rfl,λ_=>by kernel_rfl⟩) (jC:∀w,(zeroValue E).run P w=.ok (.int .u8 0) w:=by exactλ_=>by kernel_rfl) (h1:Has [0] G 0 x (fO m):=by exact hs) (h2:Has [0] G 0 y (fO n):=by exact hs) (hd:decide (d<c.N)=true:=by kernel_rfl)
  (hV:(V.all λy=>(y.slot != d&&y.id != d)&&(y.born.isNone&&y.dead.isNone))=true:=by kernel_rfl) (hG:(G.all λe=>e.slot != d)=true:=by kernel_rfl):∀a w,Inv c V [] G none_ a w ->
  aU P ops ⟨some d,.buildSlice T 2 #[(0,x),(1,y)],ty,pos,ax,none⟩ a w (Inv c (Gz d d 2 1 E::V) [] (⟨none,none,d,az 1 false 2 λk=>fO ([m,n].getD k 0)⟩::G) none_):=λa w ⟨β,hI⟩=>by
 have e1:a.eval x=.int .u8 m:=(h1.spec hI gl).out
 have e2:a.eval y=.int .u8 n:=(h2.spec hI gl).out
 refine .of rfl (cf (v:=.slice (some ⟨w.heap.size,0,none⟩) 2 2) (w':=w.alloc (.cells #[.int .u8 m,.int .u8 n] E)) ?_ (hI.BG (cs:=[.int .u8 m,.int .u8 n]) rfl rfl (λu hu=>?_) (by decide) (λk u hu w=>?_) (of_decide_eq_true hd) hV hG))
 ·show(do pure (Next.value (<-Instr.buildSlice T 2 ((#[(0,x),(1,y)]:Array (Nat×Operand)).map λ(i,x)=>(i,a.eval x))))).run P w=_
  have hu:(underlying T).run P w=.ok (.slice E) w:=run_underlying ht.under w
  have hrun:(Instr.buildSlice T 2 ((#[(0,x),(1,y)]:Array (Nat×Operand)).map λ(i,x)=>(i,a.eval x))).run P w=.ok (.slice (some ⟨w.heap.size,0,none⟩) 2 2) (w.alloc (.cells #[.int .u8 m,.int .u8 n] E)):=by
   simp only[Instr.buildSlice,Sem.run_bind,hu,Result.andThen_ok,ht.size]
   rw[if_neg (by omega),if_neg (by omega)]
   simp only[Sem.run_bind,jC,Result.andThen_ok,Sem.run_pure]
   rw[show((#[(0,x),(1,y)]:Array (Nat×Operand)).map λ(i,x)=>(i,a.eval x))=#[(0,.int .u8 m),(1,.int .u8 n)] by simp[e1,e2]]
   have Cb:Instr.fill (λi=>some (i*1,1)) (Array.map (λx=>(Value.int .u8 0).cells[x%(Value.int .u8 0).cells.size]!) (Array.range (2*1))) (#[(0,Value.int .u8 m),(1,.int .u8 n)]:Array (Nat×Value)).toList=some #[.int .u8 m,.int .u8 n]:=by
    have e:Array.map (λx=>(Value.int .u8 0).cells[x%(Value.int .u8 0).cells.size]!) (Array.range (2*1))=#[.int .u8 0,.int .u8 0]:=by
     apply Array.ext
     ·simp
     ·intro k tj hk2
      simp only[Array.getElem_map,Array.getElem_range]
      have hk:k<2:=by simpa using hk2
      match k,hk with
      |0,_=>rfl
      |1,_=>rfl
    rw[e]
    rfl
   rw[Cb]
   simp only[Sem.run_bind,newRow,Sem.run_pure]
   rfl
  rw[Sem.run_bind,hrun]
  rfl
 ·rcases List.mem_cons.1 hu with rfl|hu
  ·exact cF _
  ·rcases List.mem_cons.1 hu with rfl|hu
   ·exact cF _
   ·cases hu
 ·match k,hu with
  |0,hu=>injection hu with hu; exact hu.symm
  |1,hu=>injection hu with hu; exact hu.symm
end
end Wx
