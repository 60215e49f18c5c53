import Derived.Test.YtfnmkhlleanppaaGreatDoorCWNWalk
import Derived.RangeFuncNested
import Derived.Test.YtfnmkhlleanppaaGreatDoorJWN17
namespace Wx
open Go Go.RowKit
section
variable {M M':Nat->Nat->Prop} {B:Nat->Prop} {F:World->Prop} {w w':World}
theorem aL.later (h:aL M F w) (he:Ext M w w') (hm:∀k o,k<w.heap.size->M' k o->M k o):aL M' F w':=λw'' h'=>h w''
  ⟨Nat.le_trans he.size h'.size,λk hk hn=>(h'.block k (Nat.lt_of_lt_of_le hk he.size) λo ho=>hn o (hm k o hk ho)).trans (he.block k hk hn),
   λk o v hn hc=>h'.cell k o v (λho=>hn (hm k o (World.block_lt_of_cell? w _ hc) ho)) (he.cell k o v hn hc)⟩
end
def Kd.oa:Kd->Bool
  |.grow _ _=>true
  |_=>false
def dW (V:List Vr):Bool:=V.all λx=>x.born.isNone&&(x.dead.isNone&&!x.kd.oa)
def eH (G:List aD):Bool:=G.all λe=>e.tag.isNone&&e.till.isNone
theorem cr {V:List Vr} (h:dW V=true) {x:Vr} (hx:x∈V):live none_ x=true/\x.lo=0/\∀m sz,x.kd≠.grow m sz:=by
  unfold dW at h
  rw[List.all_eq_true]at h
  have h1:=h x hx
  simp only[Bool.and_eq_true,Option.isNone_iff_eq_none]at h1
  refine⟨by unfold live; rw[h1.1,h1.2.1]; rfl,?_,λm sz e=>by rw[e]at h1; simp[Kd.oa]at h1⟩
  unfold Vr.lo
  cases hk:x.kd with
  |grow m sz=>rw[hk]at h1; simp[Kd.oa]at h1
  |_=>rfl
theorem qA {G:List aD} (h:eH G=true) {e:aD} (he:e∈G):on none_ e.tag=true/\off none_ e.till=true:=by
  unfold eH at h
  rw[List.all_eq_true]at h
  have h1:=h e he
  simp only[Bool.and_eq_true,Option.isNone_iff_eq_none]at h1
  rw[h1.1,h1.2]
  exact⟨rfl,rfl⟩
def Bq (V:List Vr) (β:Nat->Nat->Prop) (k:Nat):Prop:=∃x,x∈V/\β x.id k
section
variable {c c':bD} {V:List Vr} {A:List Al} {G:List aD} {L:Nat->Bool} {β:Nat->Nat->Prop} {a a':Act} {w w':World} {M:Nat->Nat->Prop}
theorem aT.kM (h:aT c V A G none_ β a w) (hV:dW V=true) {k:Nat} (hk:Bq V β k):mine c k/\k<w.heap.size/\∀o v,w.cell? ⟨k,o,none⟩=some v->dc v:=by
  obtain⟨x,hx,hb⟩:=hk
  exact(h.var x hx (cr hV hx).1).blk hb
theorem jn (h:aT c V A G L β a w) {k o:Nat} (hm:mine c k):¬c.M0 k o:=λh0=>by
  have h1:=(h.old k o h0).1
  exact hm.elim (λh2=>by omega) h1.2
theorem aT.AH {d:Nat} {p:Pred} {v:Value} (h:aT c V [] G none_ β a w) (hd:d<c.N) (hV:∀x,x∈V->x.slot≠d) (hG:∀e,e∈G->e.slot≠d) (hp:aL (own c V none_ β) (λw=>p w v) w):aT c V [] (⟨none,none,d,p⟩::G) none_ β (a.put (some d) v) w:=by
  have sd:∀s,s≠d->sl (a.put (some d) v) s=sl a s:=λs hs=>bf λe=>hs (Option.some.inj e).symm
  refine⟨by rw[dh]; exact h.size,by rw[put_defers]; exact h.defers,h.below,h.old,λx hx hl=>(h.var x hx hl).keep (sd _ (hV x hx)) rfl (λ_ _=>rfl) (Nat.le_refl _) (λ_ h=>h) (λ_ h=>h) rfl,h.apart,(λp hp=>by cases hp),λe he ho hf=>?_⟩
  rcases List.mem_cons.1 he with rfl|he
  · show aL _ (λw=>p w (sl (a.put (some d) v) d)) w
    rw[dK (by rw[h.size]; exact hd)]
    exact hp
  · rw[sd _ (hG e he)]
    exact h.fq e he ho hf
abbrev jH (id s:Nat) (R:Rel):Vr:=⟨id,s,none,none,.obj,0,0,false,R,[]⟩
def jz (β:Nat->Nat->Prop) (id:Nat) (B':Nat->Prop) (i:Nat):Nat->Prop:=if i=id then B' else β i
variable {id:Nat} {B':Nat->Prop}
theorem qG {β:Nat->Nat->Prop}:jz β id B' id=B':=if_pos rfl
theorem vg {β:Nat->Nat->Prop} {i:Nat} (h:i≠id):jz β id B' i=β i:=if_neg h
theorem aT.move {s n0:Nat} {R R':Rel} (h:aT c V [] G none_ β a w) (hV:dW V=true) (hG:eH G=true) (hk:V[n0]?=some (jH id s R)) (hu:∀(y:Vr) (n:Nat),V[n]?=some y->y.id=id->n=n0) (hle:cI (β id) w w')
    (hB:∀k,B' k->β id k\/w.heap.size<=k) (hno:∀k,B' k->k<w'.heap.size/\∀o v,w'.cell? ⟨k,o,none⟩=some v->dc v) (hR:aL (minus (own c V none_ β) (β id)) (λw=>R' B' w (sl a s)) w'):
    aT c (V.set n0 (jH id s R')) [] G none_ (jz β id B') a w':=by
  have hx:=List.mem_of_getElem? hk
  have hn0:=(List.getElem?_eq_some_iff.1 hk).1
  have hmem:∀y,y∈V.set n0 (jH id s R')->y=jH id s R'\/(y∈V/\y.id≠id):=by
    intro y hy
    obtain⟨n,hn⟩:=List.mem_iff_getElem?.1 hy
    rw[List.getElem?_set]at hn
    by_cases he:n0=n
    · rw[if_pos he,if_pos hn0]at hn
      exact .inl (Option.some.inj hn).symm
    · rw[if_neg he]at hn
      exact .inr ⟨List.mem_of_getElem? hn,λe=>he (hu y n hn e).symm⟩
  have gE:∀k,β id k->mine c k:=λk hk'=>(h.kM hV ⟨_,hx,hk'⟩).1
  have zO:cI c.cU c.w0 w':=⟨hle.os.trans h.below.os,hle.tape.trans h.below.tape,hle.output.trans h.below.output,Nat.le_trans h.below.size hle.size,λk hk' hn=>(hle.block k (Nat.lt_of_lt_of_le hk' h.below.size) λhb=>(gE k hb).elim (λh3=>by omega) hn).trans (h.below.block k hk' hn)⟩
  have xx:∀k,B' k->mine c k:=λk hk'=>(hB k hk').elim (gE k) λh1=>.inl (Nat.le_trans h.below.size h1)
  have ob:∀k o,β id k->own c V none_ β k o:=λk o hk'=>.inr ⟨_,hx,rfl,hk',Nat.zero_le _⟩
  have e1:Ext (own c V none_ β) w w':=Ext.gO hle λk o _ hk'=>ob k o hk'
  have hβ:∀y:Vr,y.id≠id->(jz β id B') y.id=β y.id:=λy hy=>vg hy
  have Aa:(jz β id B') id=B':=qG
  have hown:∀k o,k<w.heap.size->own c (V.set n0 (jH id s R')) none_ (jz β id B') k o->own c V none_ β k o:=by
    rintro k o hk' (h1|⟨y,hy,h1,h2,h3⟩)
    · exact .inl h1
    · rcases hmem y hy with rfl|⟨cR,hid⟩
      · have h2:(jz β id B') id k:=h2
        rw[Aa]at h2
        exact(hB k h2).elim (ob k o) λh4=>by omega
      · rw[hβ y hid]at h2
        exact .inr ⟨y,cR,(cr hV cR).1,h2,h3⟩
  refine⟨h.size,h.defers,zO,λk o h0=>⟨(h.old k o h0).1,λv hv=>(h.old k o h0).2 v ?_⟩,λy hy _=>?_,λy y' g hy hy' _ _ hne=>?_,(λp hp=>by cases hp),λe he ho hf=>?_⟩
  · have hk':k<w.heap.size:=Nat.lt_of_lt_of_le (h.old k o h0).1.1 h.below.size
    rw[World.cell?_of_block (w:=w) (a:=⟨k,o,none⟩) (hle.block k hk' λhb=>jn h (gE k hb) h0)]at hv
    exact hv
  · rcases hmem y hy with rfl|⟨cR,hid⟩
    · refine(aP rfl).2 ?_
      show jR _ c none_ a w' _ ((jz β id B') id)
      rw[Aa]
      refine⟨λk hk'=>⟨xx k hk',hno k hk'⟩,?_⟩
      refine hR.sub λk o _ hk'=>?_
      rcases hk'.1 with h1|⟨y,hy,h1,h2,h3⟩
      · exact⟨.inl h1,λhb=>jn h (gE k hb) h1⟩
      · rcases hmem y hy with rfl|⟨cR,hid⟩
        · have h2:(jz β id B') id k:=h2
          rw[Aa]at h2
          exact absurd h2 hk'.2
        · rw[hβ y hid]at h2
          exact⟨.inr ⟨y,cR,(cr hV cR).1,h2,h3⟩,h.apart y _ k cR hx (cr hV cR).1 rfl hid h2⟩
    · have hl:=(cr hV cR).1
      have rS:∀g,β y.id g->¬β id g:=λg hg=>h.apart y _ g cR hx hl rfl hid hg
      have hlt:∀g,β y.id g->g<w.heap.size:=λg hg=>(h.kM hV ⟨y,cR,hg⟩).2.1
      refine(h.var y cR hl).keep rfl (hβ y hid) (λg hg=>hle.block g (hlt g hg) (rS g hg)) hle.size (λF hF=>hF.later e1 hown) (λF hF=>?_) rfl
      have e4:Ext (minus (own c V none_ β) (β y.id)) w w':=Ext.gO hle λk j _ hk'=>⟨ob k j hk',λhy'=>rS k hy' hk'⟩
      exact hF.later e4 λk o hk' h=>⟨hown k o hk' h.1,h.2⟩
  · rcases hmem y hy with rfl|⟨cR,hid⟩<;>rcases hmem y' hy' with rfl|⟨rW,xq⟩
    · exact absurd rfl hne
    · show(jz β id B') id g->_
      rw[Aa,hβ y' xq]
      intro h1 h2
      rcases hB g h1 with h3|h3
      · exact h.apart _ y' g hx rW rfl (cr hV rW).1 (λe=>xq e.symm) h3 h2
      · have:=(h.kM hV ⟨y',rW,h2⟩).2.1
        omega
    · show _->¬(jz β id B') id g
      rw[Aa,hβ y hid]
      intro h2 h1
      rcases hB g h1 with h3|h3
      · exact h.apart y _ g cR hx (cr hV cR).1 rfl hid h2 h3
      · have:=(h.kM hV ⟨y,cR,h2⟩).2.1
        omega
    · rw[hβ y hid,hβ y' xq]
      exact h.apart y y' g cR rW (cr hV cR).1 (cr hV rW).1 hne
  · obtain⟨k1,k2⟩:=qA hG he
    exact(h.fq e he k1 k2).later e1 hown
end
end Wx

namespace Wx
open Go Go.RowKit
def kD (V:List Vr) (id n0:Nat):Bool:=V.zipIdx.all λq=>q.1.id != id||q.2==n0
theorem nA {V:List Vr} {id n0:Nat} (h:kD V id n0=true) (y:Vr) (n:Nat) (hn:V[n]?=some y) (hy:y.id=id):n=n0:=by
 unfold kD at h
 rw[List.all_eq_true]at h
 have h1:=h (y,n) (List.mem_iff_getElem?.2 ⟨n,by simp[List.getElem?_zipIdx,hn]⟩)
 simpa [hy] using h1
variable {w:World}
theorem ie {k o:Nat} {ob:Obj} (h:w.heap[k]?=some ob) (hc:ob.isCells=false) (v:Value):w.cell? ⟨k,o,none⟩≠some v:=by
 intro e
 obtain⟨o',h1,h2⟩:=cells_of_cell e
 rw[h]at h1
 injection h1 with h1
 rw[<-h1,hc]at h2
 cases h2
theorem mM {B:Nat->Prop} {l:Nat} (o:Obj) (hl:B l):cI B w (w.putObj l o):=
 ⟨rfl,rfl,rfl,by rw[World.putObj_size]; exact Nat.le_refl _,λk _ hn=>World.putObj_heap_other λe=>hn (e▸hl)⟩
section
variable {P:Program} {Q:Exit->Act->World->Prop} {c:bD} {V:List Vr} {G:List aD} {β:Nat->Nat->Prop} {a a':Act} {w w':World}
end
end Wx

namespace Wx
open Go Go.RowKit
section
variable {P:Program} {Q:Exit->Act->World->Prop} {c:bD} {V:List Vr} {G:List aD} {β:Nat->Nat->Prop} {a a':Act} {w w':World}
end
end Wx

namespace Wx
open Go Go.RowKit
section
variable {ro:Option Nat} {P:Program} {Q:Exit->Act->World->Prop} {c:bD} {V:List Vr} {A:List Al} {G:List aD} {β:Nat->Nat->Prop} {a a':Act} {w w':World}
end
end Wx

namespace Wx
open Go Go.RowKit
section
variable {ro:Option Nat} {ds:List Deferred} {P:Program} {Q:Exit->Act->World->Prop} {c:bD} {V:List Vr} {A:List Al} {G:List aD} {β:Nat->Nat->Prop} {a a':Act} {w w':World}
theorem kF {id:Nat} {l:List Oper} (k:Nat) (hkn:k<=l.length) (hwf:kE c.N (l.take k) V A G=true) (hnd:(l.take k).all bV=true)
  (h0:Inv c V A G none_ a w) (hs:jS P l.toArray (bg l.length) c V A G 0 (l.take k))
  (hK:∀a w,Inv c V A G (λ_=>true) a w->∀n,wpOpsIn (rI ro) n P l.toArray (λe a' w'=>∃a0,a'=fo ds a0/\Q e a0 w') (List.range' k (l.length-k)) (fo ds a) w):(Code.region id l.toArray false).ww ro ds P Q a w:=by
 intro n
 refine wpIn_region ?_
 have tm:∀k j,((bg l.length).getD k 0).testBit j=true->j<k:=by
  intro k j h
  rcases Nat.lt_or_ge k l.length with h'|h'
  ·have e:(bg l.length).getD k 0=2^k-1:=by simp[bg,h']
   rw[e,Nat.testBit_two_pow_sub_one]at h
   simpa using h
  ·have e:(bg l.length).getD k 0=0:=by simp[bg,Nat.not_lt.2 h']
   rw[e]at h
   simp at h
 have key:∀(m i:Nat),i+m=k->∀(a:Act) (w:World),Inv c V A G (λj=>decide (j<i)) a w->wpOpsIn (rI ro) n P l.toArray (λe a' w'=>∃a0,a'=fo ds a0/\Q e a0 w') (List.range' i m++List.range' k (l.length-k)) (fo ds a) w:=by
  intro m
  induction m with
  |zero=>
   rintro i hi a w ⟨β,hI⟩
   exact hK a w ⟨β,hI.congr (cY hwf) λj hj=>by simp at hj; simp; omega⟩ n
  |succ m ih=>
   intro i hi a w hI
   have rQ:i<k:=by omega
   obtain⟨o,ho⟩:∃o,l[i]?=some o:=⟨l[i]'(by omega),List.getElem?_eq_getElem (by omega)⟩
   have CQ:(l.take k)[i]?=some o:=by rw[List.getElem?_take,if_pos rQ]; exact ho
   rw[List.range'_succ,List.cons_append,wpOpsIn_cons]
   have kY:gg (bg l.length) i (λj=>decide (j<i)):=⟨by simp,λj hj=>by simpa using tm i j hj,λj hj=>by have:=tm j i hj; simp; omega⟩
   have hop:=hs.get CQ
   rw[Nat.zero_add]at hop
   refine(hop _ a w hI kY (jE hwf ho rQ)).mS (by simpa using ho) (List.all_eq_true.1 hnd o (List.mem_of_getElem? CQ)) λa' w' h'=>ih (i+1) (by omega) a' w' ?_
   have e:upd (λj=>decide (j<i)) i=(λj=>decide (j<i+1)):=by
    funext j
    unfold upd
    by_cases h:j=i
    ·simp[h]
    ·rw[if_neg h]
     by_cases h2:j<i
     ·simp[h2]; omega
     ·simp[h2]; omega
   rw[<-e]
   exact h'
 have:=key k 0 (by omega) a w (by
  have e:(λj=>decide (j<0))=none_:=by funext j; simp
  rw[e]
  exact h0)
 have e2:List.range' 0 k++List.range' k (l.length-k)=List.range l.toArray.size:=by
  rw[List.range_eq_range',show l.toArray.size=k+(l.length-k) by simp; omega]
  have:=List.range'_append_1 (s:=0) (m:=k) (n:=l.length-k)
  rw[Nat.zero_add]at this
  exact this
 rwa [e2]at this
end
end Wx
