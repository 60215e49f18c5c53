import Derived.Test.YtadigiledciihaaGreatJRD25
import Derived.RangeFuncNested
namespace Wx
open Go Go.RowKit
section
variable {M M':Nat->Nat->Prop} {B:Nat->Prop} {F:World->Prop} {w w':World}
abbrev Lj (B:Nat->Prop):Nat->Nat->Prop:=λk _=>B k
theorem aN.later (h:aN M F w) (he:Ext M w w') (hm:∀k o,k<w.heap.size->M' k o->M k o):aN M' F w':=λw'' h'=>h w''
  ⟨Nat.le_trans he.size h'.size,λk hk hn=>(h'.block k (Nat.lt_of_lt_of_le hk he.size) λo ho=>hn o (hm k o hk ho)).trans (he.block k hk hn),
   λk o v hn hc=>h'.cell k o v (λho=>hn (hm k o (World.block_lt_of_cell? w _ hc) ho)) (he.cell k o v hn hc)⟩
theorem aN.join (h:aN M (aN (Lj B) F) w) (hB:∀k,B k->k<w.heap.size):aN (λk o=>M k o\/B k) F w:=by
  intro w'' he
  classical
  let w':World:={ w'' with heap:=w''.heap.mapIdx λi o=>if B i then(w.heap[i]?).getD o else o }
  have hs:w'.heap.size=w''.heap.size:=by simp[w']
  have hg:∀k,w'.heap[k]?=if B k then w.heap[k]? else w''.heap[k]?:=by
    intro k
    show(w''.heap.mapIdx _)[k]?=_
    rw[Array.getElem?_mapIdx]
    by_cases hb:B k
    · have h1:=hB k hb
      have h2:k<w''.heap.size:=Nat.lt_of_lt_of_le h1 he.size
      simp[h1,h2,hb]
    · rw[if_neg hb]
      cases w''.heap[k]?<;>simp[hb]
  refine h w' ⟨by rw[hs]; exact he.size,?_,?_⟩ w'' ⟨by rw[hs]; exact Nat.le_refl _,?_,?_⟩
  · intro k hk hn
    rw[hg]
    by_cases hb:B k
    · rw[if_pos hb]
    · rw[if_neg hb]; exact he.block k hk λo ho=>ho.elim (hn o) hb
  · intro k o v hn hc
    by_cases hb:B k
    · rw[World.cell?_of_block (w:=w) (a:=⟨k,o,none⟩) (by rw[hg,if_pos hb])]; exact hc
    · rw[World.cell?_of_block (w:=w'') (a:=⟨k,o,none⟩) (by rw[hg,if_neg hb])]; exact he.cell k o v (λho=>ho.elim hn hb) hc
  · intro k _ hn
    rw[hg,if_neg (hn 0)]
  · intro k o v hn hc
    rw[World.cell?_of_block (w:=w') (a:=⟨k,o,none⟩) (by rw[hg,if_neg hn])]
    exact hc
end
def Kd.zl:Kd->Bool
  |.grow _ _=>true
  |_=>false
def bU (V:List Vr):Bool:=V.all λx=>x.born.isNone&&(x.dead.isNone&&!x.kd.zl)
def cR (G:List aS):Bool:=G.all λe=>e.tag.isNone&&e.till.isNone
theorem bE {V:List Vr} (h:bU V=true) {x:Vr} (hx:x∈V):live none_ x=true/\x.lo=0/\∀m sz,x.kd≠.grow m sz:=by
  unfold bU at h
  rw[List.all_eq_true]at h
  have h1:=h x hx
  simp only[Bool.and_eq_true,Option.isNone_iff_eq_none]at h1
  refine⟨by unfold live; rw[h1.1,h1.2.1]; rfl,?_,λm sz e=>by rw[e]at h1; simp[Kd.zl]at h1⟩
  unfold Vr.lo
  cases hk:x.kd with
  |grow m sz=>rw[hk]at h1; simp[Kd.zl]at h1
  |_=>rfl
theorem tQ {G:List aS} (h:cR G=true) {e:aS} (he:e∈G):on none_ e.tag=true/\off none_ e.till=true:=by
  unfold cR at h
  rw[List.all_eq_true]at h
  have h1:=h e he
  simp only[Bool.and_eq_true,Option.isNone_iff_eq_none]at h1
  rw[h1.1,h1.2]
  exact⟨rfl,rfl⟩
def ia (V:List Vr) (β:Nat->Nat->Prop) (k:Nat):Prop:=∃x,x∈V/\β x.id k
def LK (w:World):cT:=⟨0,w,λ_ _=>False,λ_=>True⟩
structure Told (a:Act) (V:List Vr) (G:List aS) (β:Nat->Nat->Prop) (w:World):Prop where
  var:∀x,x∈V->jS (Lj (ia V β)) (LK w) none_ β a w x
  apart:∀x y g,x∈V->y∈V->x.id≠y.id->β x.id g->¬β y.id g
  iD:∀e,e∈G->aN (Lj (ia V β)) (λw=>e.p w (sl a e.slot)) w
section
variable {c c':cT} {V:List Vr} {A:List Al} {G:List aS} {L:Nat->Bool} {β:Nat->Nat->Prop} {a a':Act} {w w':World} {M:Nat->Nat->Prop}
theorem jS.cfg {x:Vr} (h:jS M c L β a w x) (hm:∀k,β x.id k->mine c' k):jS M c' L β a w x:=by
  rcases gl x.kd with hk|⟨m,sz,hk⟩|hk
  · obtain⟨g,e,h1,h2⟩:=(bC hk).1 h
    exact(bC hk).2 ⟨g,e,h1,hm g ((e g).2 rfl),h2.held⟩
  · rcases (bF hk).1 h with h1|⟨b,cap,cur,e,h1,h2,h3⟩
    · exact(bF hk).2 (.inl h1)
    · exact(bF hk).2 (.inr ⟨b,cap,cur,e,h1,hm b ((e b).2 rfl),h3⟩)
  · obtain⟨h1,h2⟩:=(aH hk).1 h
    exact(aH hk).2 ⟨λk hk'=>⟨hm k hk',(h1 k hk').2⟩,h2⟩
theorem aT.gZ (h:aT c V A G none_ β a w) (hV:bU V=true) {k:Nat} (hk:ia V β k):mine c k/\k<w.heap.size/\∀o v,w.cell? ⟨k,o,none⟩=some v->fW v:=by
  obtain⟨x,hx,hb⟩:=hk
  exact(h.var x hx (bE hV hx).1).blk hb
theorem gn (h:aT c V A G L β a w) {k o:Nat} (hm:mine c k):¬c.M0 k o:=λh0=>by
  have h1:=(h.old k o h0).1
  exact hm.elim (λh2=>by omega) h1.2
theorem aT.told (h:aT c V A G none_ β a w) (hV:bU V=true) (hG:cR G=true):aN c.M0 (Told a V G β) w:=by
  intro w1 he
  have ho:∀k o,ia V β k->own c V none_ β k o:=λk o ⟨x,hx,hb⟩=>.inr ⟨x,hx,(bE hV hx).1,hb,by rw[(bE hV hx).2.1]; exact Nat.zero_le _⟩
  have hn:∀k,ia V β k->∀o,¬c.M0 k o:=λk hk o=>gn h (h.gZ hV hk).1
  have e1:Ext (own c V none_ β) w w1:=he.mono λk o _ hk=>.inl hk
  refine⟨λx hx=>?_,λx y g hx hy hne=>h.apart x y g hx hy (bE hV hx).1 (bE hV hy).1 hne,λe he'=>?_⟩
  · have hv:=(h.var x hx (bE hV hx).1).cfg (c':=LK w1) λ_ _=>.inr trivial
    refine hv.keep rfl rfl (λg hg=>he.block g (h.gZ hV ⟨x,hx,hg⟩).2.1 (hn g ⟨x,hx,hg⟩)) he.size (λF hF=>(hF.ext e1).sub λk o _ hk=>ho k o hk) (λF hF=>?_) rfl
    have e2:Ext (minus (own c V none_ β) (β x.id)) w w1:=he.mono λk o _ hk=>⟨.inl hk,λhb=>hn k ⟨x,hx,hb⟩ o hk⟩
    exact(hF.ext e2).sub λk o _ hk=>⟨ho k o hk.1,hk.2⟩
  · obtain⟨h1,h2⟩:=tQ hG he'
    exact((h.iD e he' h1 h2).ext e1).sub λk o _ hk=>ho k o hk
theorem Told.act (h:Told a V G β w) (hV:∀x,x∈V->sl a' x.slot=sl a x.slot) (hG:∀e,e∈G->sl a' e.slot=sl a e.slot):Told a' V G β w:=
  ⟨λx hx=>(h.var x hx).keep (hV x hx) rfl (λ_ _=>rfl) (Nat.le_refl _) (λ_ h=>h) (λ_ h=>h) rfl,h.apart,λe he=>by rw[hG e he]; exact h.iD e he⟩
theorem Told.inv (h:aN c.M0 (Told a V G β) w) (hV:bU V=true) (hs:a.tmps.size=c.N) (hd:a.defers=[]) (hm:∀k,ia V β k->mine c k)
    (J9:cE c.gm c.w0 w) (hold:∀k o,c.M0 k o->(k<c.w0.heap.size/\¬c.gm k)/\∀v,w.cell? ⟨k,o,none⟩=some v->fW v):aT c V [] G none_ β a w:=by
  have h0:=h.out
  have hn:∀k,ia V β k->∀o,¬c.M0 k o:=λk hk o h0=>(hm k hk).elim (λh2=>by have:=(hold k o h0).1.1; omega) (hold k o h0).1.2
  have hz:∀k,ia V β k->k<w.heap.size:=λk ⟨x,hx,hb⟩=>((h0.var x hx).blk hb).2.1
  have hown:∀k o,own c V none_ β k o->c.M0 k o\/ia V β k:=λk o h=>h.elim .inl λ⟨x,hx,_,hb,_⟩=>.inr ⟨x,hx,hb⟩
  refine⟨hs,hd,J9,hold,λx hx _=>?_,λx y g hx hy _ _ hne=>h0.apart x y g hx hy hne,(λp hp=>by cases hp),λe he _ _=>?_⟩
  · rcases gl x.kd with hk|⟨m,sz,hk⟩|hk
    · obtain⟨g,e,h1,h2⟩:=(bC hk).1 (h0.var x hx)
      obtain⟨cs,h3,h4,h5,_⟩:=h2.held
      have hb:ia V β g:=⟨x,hx,(e g).2 rfl⟩
      refine(bC hk).2 ⟨g,e,h1,hm g hb,cs,h3,h4,h5,?_⟩
      have key:aN c.M0 (aN (Lj (ia V β)) λw=>cont none_ x.c0 x.st (·=g) w (ak x.agg cs)) w:=by
        intro w1 he
        obtain⟨g1,e1,_,k2⟩:=(bC hk).1 ((h w1 he).var x hx)
        obtain⟨cs1,k3,_,_,k6⟩:=k2.held
        have eg:g1=g:=((e1 g).1 ((e g).2 rfl)).symm
        subst eg
        rw[he.block g1 (hz g1 hb) (hn g1 hb),h3]at k3
        have ec:cs=cs1:=by simpa using k3
        subst ec
        exact k6
      exact(key.join hz).sub λk o _ hk=>hown k o hk
    · exact absurd hk ((bE hV hx).2.2 m sz)
    · obtain⟨h1,_⟩:=(aH hk).1 (h0.var x hx)
      refine(aH hk).2 ⟨λk hk'=>⟨hm k ⟨x,hx,hk'⟩,(h1 k hk').2⟩,?_⟩
      have key:aN c.M0 (aN (Lj λk=>ia V β k/\¬β x.id k) λw=>cont none_ x.c0 x.st (β x.id) w (sl a x.slot)) w:=λw1 he=>((aH hk).1 ((h w1 he).var x hx)).2
      exact(key.join λk hk=>hz k hk.1).sub λk o _ hk=>(hown k o hk.1).elim .inl λh=>.inr ⟨h,hk.2⟩
  · have key:aN c.M0 (aN (Lj (ia V β)) λw=>e.p w (sl a e.slot)) w:=λw1 hw=>(h w1 hw).iD e he
    exact(key.join hz).sub λk o _ hk=>hown k o hk
theorem aT.oh {d:Nat} {p:Pred} {v:Value} (h:aT c V [] G none_ β a w) (hd:d<c.N) (hV:∀x,x∈V->x.slot≠d) (hG:∀e,e∈G->e.slot≠d) (hp:aN (own c V none_ β) (λw=>p w v) w):aT c V [] (⟨none,none,d,p⟩::G) none_ β (a.put (some d) v) w:=by
  have sd:∀s,s≠d->sl (a.put (some d) v) s=sl a s:=λs hs=>bV λe=>hs (Option.some.inj e).symm
  refine⟨by rw[iU]; exact h.size,by rw[put_defers]; exact h.defers,h.below,h.old,λx hx hl=>(h.var x hx hl).keep (sd _ (hV x hx)) rfl (λ_ _=>rfl) (Nat.le_refl _) (λ_ h=>h) (λ_ h=>h) rfl,h.apart,(λp hp=>by cases hp),λe he ho hf=>?_⟩
  rcases List.mem_cons.1 he with rfl|he
  · show aN _ (λw=>p w (sl (a.put (some d) v) d)) w
    rw[iA (by rw[h.size]; exact hd)]
    exact hp
  · rw[sd _ (hG e he)]
    exact h.iD e he ho hf
abbrev dM (id s:Nat) (R:Rel):Vr:=⟨id,s,none,none,.obj,0,0,false,R,[]⟩
def iV (β:Nat->Nat->Prop) (id:Nat) (B':Nat->Prop) (i:Nat):Nat->Prop:=if i=id then B' else β i
variable {id:Nat} {B':Nat->Prop}
theorem oq {β:Nat->Nat->Prop}:iV β id B' id=B':=if_pos rfl
theorem vz {β:Nat->Nat->Prop} {i:Nat} (h:i≠id):iV β id B' i=β i:=if_neg h
theorem aT.move {s n0:Nat} {R R':Rel} (h:aT c V [] G none_ β a w) (hV:bU V=true) (hG:cR G=true) (hk:V[n0]?=some (dM id s R)) (hu:∀(y:Vr) (n:Nat),V[n]?=some y->y.id=id->n=n0) (hle:cE (β id) w w')
    (hB:∀k,B' k->β id k\/w.heap.size<=k) (hno:∀k,B' k->k<w'.heap.size/\∀o v,w'.cell? ⟨k,o,none⟩=some v->fW v) (hR:aN (minus (own c V none_ β) (β id)) (λw=>R' B' w (sl a s)) w'):
    aT c (V.set n0 (dM id s R')) [] G none_ (iV β id B') a w':=by
  have hx:=List.mem_of_getElem? hk
  have ze:=(List.getElem?_eq_some_iff.1 hk).1
  have hmem:∀y,y∈V.set n0 (dM id s R')->y=dM id s R'\/(y∈V/\y.id≠id):=by
    intro y hy
    obtain⟨n,hn⟩:=List.mem_iff_getElem?.1 hy
    rw[List.getElem?_set]at hn
    by_cases he:n0=n
    · rw[if_pos he,if_pos ze]at hn
      exact .inl (Option.some.inj hn).symm
    · rw[if_neg he]at hn
      exact .inr ⟨List.mem_of_getElem? hn,λe=>he (hu y n hn e).symm⟩
  have iL:∀k,β id k->mine c k:=λk hk'=>(h.gZ hV ⟨_,hx,hk'⟩).1
  have MK:cE c.gm c.w0 w':=⟨hle.os.trans h.below.os,hle.tape.trans h.below.tape,hle.output.trans h.below.output,Nat.le_trans h.below.size hle.size,λk hk' hn=>(hle.block k (Nat.lt_of_lt_of_le hk' h.below.size) λhb=>(iL k hb).elim (λh3=>by omega) hn).trans (h.below.block k hk' hn)⟩
  have Kn:∀k,B' k->mine c k:=λk hk'=>(hB k hk').elim (iL k) λh1=>.inl (Nat.le_trans h.below.size h1)
  have ob:∀k o,β id k->own c V none_ β k o:=λk o hk'=>.inr ⟨_,hx,rfl,hk',Nat.zero_le _⟩
  have e1:Ext (own c V none_ β) w w':=Ext.Bh hle λk o _ hk'=>ob k o hk'
  have hβ:∀y:Vr,y.id≠id->(iV β id B') y.id=β y.id:=λy hy=>vz hy
  have Ng:(iV β id B') id=B':=oq
  have hown:∀k o,k<w.heap.size->own c (V.set n0 (dM id s R')) none_ (iV β id B') k o->own c V none_ β k o:=by
    rintro k o hk' (h1|⟨y,hy,h1,h2,h3⟩)
    · exact .inl h1
    · rcases hmem y hy with rfl|⟨oK,hid⟩
      · have h2:(iV β id B') id k:=h2
        rw[Ng]at h2
        exact(hB k h2).elim (ob k o) λh4=>by omega
      · rw[hβ y hid]at h2
        exact .inr ⟨y,oK,(bE hV oK).1,h2,h3⟩
  refine⟨h.size,h.defers,MK,λk o h0=>⟨(h.old k o h0).1,λv hv=>(h.old k o h0).2 v ?_⟩,λy hy _=>?_,λy y' g hy hy' _ _ hne=>?_,(λp hp=>by cases hp),λe he ho hf=>?_⟩
  · have hk':k<w.heap.size:=Nat.lt_of_lt_of_le (h.old k o h0).1.1 h.below.size
    rw[World.cell?_of_block (w:=w) (a:=⟨k,o,none⟩) (hle.block k hk' λhb=>gn h (iL k hb) h0)]at hv
    exact hv
  · rcases hmem y hy with rfl|⟨oK,hid⟩
    · refine(aH rfl).2 ?_
      show vU _ c none_ a w' _ ((iV β id B') id)
      rw[Ng]
      refine⟨λk hk'=>⟨Kn k hk',hno k hk'⟩,?_⟩
      refine hR.sub λk o _ hk'=>?_
      rcases hk'.1 with h1|⟨y,hy,h1,h2,h3⟩
      · exact⟨.inl h1,λhb=>gn h (iL k hb) h1⟩
      · rcases hmem y hy with rfl|⟨oK,hid⟩
        · have h2:(iV β id B') id k:=h2
          rw[Ng]at h2
          exact absurd h2 hk'.2
        · rw[hβ y hid]at h2
          exact⟨.inr ⟨y,oK,(bE hV oK).1,h2,h3⟩,h.apart y _ k oK hx (bE hV oK).1 rfl hid h2⟩
    · have hl:=(bE hV oK).1
      have MR:∀g,β y.id g->¬β id g:=λg hg=>h.apart y _ g oK hx hl rfl hid hg
      have hlt:∀g,β y.id g->g<w.heap.size:=λg hg=>(h.gZ hV ⟨y,oK,hg⟩).2.1
      refine(h.var y oK hl).keep rfl (hβ y hid) (λg hg=>hle.block g (hlt g hg) (MR g hg)) hle.size (λF hF=>hF.later e1 hown) (λF hF=>?_) rfl
      have e4:Ext (minus (own c V none_ β) (β y.id)) w w':=Ext.Bh hle λk j _ hk'=>⟨ob k j hk',λhy'=>MR k hy' hk'⟩
      exact hF.later e4 λk o hk' h=>⟨hown k o hk' h.1,h.2⟩
  · rcases hmem y hy with rfl|⟨oK,hid⟩<;>rcases hmem y' hy' with rfl|⟨Em,Kg⟩
    · exact absurd rfl hne
    · show(iV β id B') id g->_
      rw[Ng,hβ y' Kg]
      intro h1 h2
      rcases hB g h1 with h3|h3
      · exact h.apart _ y' g hx Em rfl (bE hV Em).1 (λe=>Kg e.symm) h3 h2
      · have:=(h.gZ hV ⟨y',Em,h2⟩).2.1
        omega
    · show _->¬(iV β id B') id g
      rw[Ng,hβ y hid]
      intro h2 h1
      rcases hB g h1 with h3|h3
      · exact h.apart y _ g oK hx (bE hV oK).1 rfl hid h2 h3
      · have:=(h.gZ hV ⟨y,oK,h2⟩).2.1
        omega
    · rw[hβ y hid,hβ y' Kg]
      exact h.apart y y' g oK Em (bE hV oK).1 (bE hV Em).1 hne
  · obtain⟨k1,k2⟩:=tQ hG he
    exact(h.iD e he k1 k2).later e1 hown
end
end Wx

namespace Wx
open Go Go.RowKit
def KR (l D:Nat) (r:Loop):Rel:=λB w _=>(∀k,B k↔k=l\/k=D)/\w.heap[l]?=some (.loop r)/\w.heap[D]?=some (.deferred (some []))/\D<l
abbrev dr (id l D:Nat) (r:Loop):Vr:=dM id id (KR l D r)
def Gj (a:Act) (s:Nat):aS:=⟨none,none,s,bK (sl a s)⟩
def iG (B:Nat->Prop) (w:World):Prop:=∀k,B k->k<w.heap.size/\∀o v,w.cell? ⟨k,o,none⟩=some v->fW v
def fl (V:List Vr) (id n0:Nat):Bool:=V.zipIdx.all λq=>q.1.id != id||q.2==n0
theorem gF {V:List Vr} {id n0:Nat} (h:fl V id n0=true) (y:Vr) (n:Nat) (hn:V[n]?=some y) (hy:y.id=id):n=n0:=by
 unfold fl at h
 rw[List.all_eq_true]at h
 have h1:=h (y,n) (List.mem_iff_getElem?.2 ⟨n,by simp[List.getElem?_zipIdx,hn]⟩)
 simpa [hy] using h1
variable {w:World}
theorem fQ {k o:Nat} {ob:Obj} (h:w.heap[k]?=some ob) (hc:ob.isCells=false) (v:Value):w.cell? ⟨k,o,none⟩≠some v:=by
 intro e
 obtain⟨o',h1,h2⟩:=cells_of_cell e
 rw[h]at h1
 injection h1 with h1
 rw[<-h1,hc]at h2
 cases h2
theorem oL {B:Nat->Prop} {l:Nat} (o:Obj) (hl:B l):cE B w (w.putObj l o):=
 ⟨rfl,rfl,rfl,by rw[World.putObj_size]; exact Nat.le_refl _,λk _ hn=>World.putObj_heap_other λe=>hn (e▸hl)⟩
section
variable {P:Program} {Q:Exit->Act->World->Prop} {c:cT} {V:List Vr} {G:List aS} {β:Nat->Nat->Prop} {a a':Act} {w w':World}
theorem aT.ND (h:aT c V [] G none_ β a w) (S:List Nat):aT c V [] (G++S.map (Gj a)) none_ β a w:=by
 refine⟨h.size,h.defers,h.below,h.old,h.var,h.apart,h.al,λe he ho hf=>?_⟩
 rcases List.mem_append.1 he with he|he
 ·exact h.iD e he ho hf
 ·obtain⟨s,_,rfl⟩:=List.mem_map.1 he
  exact aN.always rfl _
theorem aT.tE {G':List aS} (h:aT c V [] G none_ β a w) (hg:∀e,e∈G'->e∈G):aT c V [] G' none_ β a w:=
 ⟨h.size,h.defers,h.below,h.old,h.var,h.apart,h.al,λe he ho hf=>h.iD e (hg e he) ho hf⟩
variable {id n0 l D:Nat} {r:Loop}
theorem aT.CV (h:aT c V [] G none_ β a w) (hk:V[n0]?=some (dr id l D r)):(∀k,β id k↔k=l\/k=D)/\w.heap[l]?=some (.loop r)/\w.heap[D]?=some (.deferred (some []))/\D<l:=
 ((aH rfl).1 (h.var _ (List.mem_of_getElem? hk) rfl)).2.out
theorem aT.record (r':Loop) (h:aT c V [] G none_ β a w) (hV:bU V=true) (hG:cR G=true) (hk:V[n0]?=some (dr id l D r)) (hu:fl V id n0=true):∃β',aT c (V.set n0 (dr id l D r')) [] G none_ β' a (w.putObj l (.loop r')):=by
 obtain⟨h1,h2,h3,h4⟩:=h.CV hk
 have hlt:l<w.heap.size:=(Array.getElem?_eq_some_iff.1 h2).1
 have hl2:(w.putObj l (.loop r')).heap[l]?=some (.loop r'):=World.putObj_heap_same hlt
 have Ke:(w.putObj l (.loop r')).heap[D]?=some (.deferred (some [])):=(World.putObj_heap_other (by omega)).trans h3
 refine⟨_,h.move (B':=β id) (R':=KR l D r') hV hG hk (gF hu) (oL _ ((h1 l).2 (.inl rfl))) (λk hk'=>.inl hk') (λk hk'=>?_) ?_⟩
 ·rw[World.putObj_size]
  rcases (h1 k).1 hk' with rfl|rfl
  ·exact⟨hlt,λo v hv=>absurd hv (fQ hl2 rfl v)⟩
  ·exact⟨by omega,λo v hv=>absurd hv (fQ Ke rfl v)⟩
 ·intro w'' he
  have hb:∀k,β id k->w''.heap[k]?=(w.putObj l (.loop r')).heap[k]?:=λk hk'=>he.block k (by rw[World.putObj_size]; rcases (h1 k).1 hk' with rfl|rfl<;>omega) λo ho=>ho.2 hk'
  exact⟨h1,(hb l ((h1 l).2 (.inl rfl))).trans hl2,(hb D ((h1 D).2 (.inr rfl))).trans Ke,h4⟩
def Ii (l:Nat) (P:Program) (body:Code) (Q:Exit->Act->World->Prop) (a:Act) (w:World):Prop:=∃w2,(Instr.beginRound l).run P w=.ok () w2/\body.ww (some l) [] P Q a w2
theorem DB {body:Code} (hI:Inv c V [] G none_ a w) (n0:Nat) (hr:r.state=.ready) (h:∀w,Inv c (V.set n0 (dr id l D { r with state:=.busy })) [] G none_ a w->body.ww (some l) [] P Q a w)
  (hk:V[n0]?=some (dr id l D r):=by exact rfl) (hV:bU V=true:=by kernel_rfl) (hG:cR G=true:=by kernel_rfl) (hu:fl V id n0=true:=by kernel_rfl):Ii l P body Q a w:=by
 obtain⟨β,hI⟩:=hI
 exact⟨_,run_beginRound (hI.CV hk).2.1 hr,h _ (hI.record _ hV hG hk hu)⟩
theorem end_ {S:List Nat} {a0:Act} (jump:Option Code) (hI:Inv c V [] (G++S.map (Gj a0)) none_ a w) (hk:V[n0]?=some (dr id l D r)) (hV:bU V=true) (hG:cR G=true) (hu:fl V id n0=true)
  (RI:∀x,x∈V->x.slot∈S\/sl a x.slot=sl a0 x.slot) (IF:∀e,e∈G->e.slot∈S):
  ∃β' w4,(Instr.endRound l jump).run P w=.ok (.bool jump.isNone) w4/\cE c.gm c.w0 w4/\(∀k,ia (V.set n0 (dr id l D { r with state:=if jump.isNone then .ready else .done,pending:=jump })) β' k->mine c k) /\
   iG (ia (V.set n0 (dr id l D { r with state:=if jump.isNone then .ready else .done,pending:=jump })) β') w4/\aN c.M0 (Told a0 (V.set n0 (dr id l D { r with state:=if jump.isNone then .ready else .done,pending:=jump })) G β') w4:=by
 obtain⟨β,hI⟩:=hI
 have heq:∀s,s∈S->sl a0 s=sl a s:=λs hs=>((hI.iD (Gj a0 s) (List.mem_append_right _ (List.mem_map.2 ⟨s,hs,rfl⟩)) rfl rfl).out:sl a s=sl a0 s).symm
 have AV:=hI.tE (G':=G) λe he=>List.mem_append_left _ he
 obtain⟨β',h4⟩:=AV.record { r with state:=if jump.isNone then .ready else .done,pending:=jump } hV hG hk hu
 have Pg:bU (V.set n0 (dr id l D { r with state:=if jump.isNone then .ready else .done,pending:=jump }))=true:=by
  unfold bU at hV ⊢
  rw[List.all_eq_true]at hV ⊢
  intro x hx
  rcases List.mem_or_eq_of_mem_set hx with hx|rfl
  ·exact hV x hx
  ·rfl
 refine⟨β',_,run_endRound jump (AV.CV hk).2.1,h4.below,λk hk'=>(h4.gZ Pg hk').1,λk hk'=>(h4.gZ Pg hk').2,(h4.told Pg hG).imp λw ht=>ht.act (λx hx=>?_) λe he=>heq _ (IF e he)⟩
 rcases List.mem_or_eq_of_mem_set hx with hx|rfl
 ·exact(RI x hx).elim (heq _) λh=>h.symm
 ·exact(RI (dr id l D r) (List.mem_of_getElem? hk)).elim (heq _) λh=>h.symm
end
def uh (P:Program) (l:Nat) (vs:Array Value) (w:World) (R:Bool->World->Prop):Prop:=∀n,YieldAt (yV none) n P l vs w λe w'=>∃b,e=.returned (.bool b)/\R b w'
def Dy (P:Program) (g:FuncId) (lb:Array Value) (n:Nat) (p q:Nat->Pred) (cap:World->Prop):Prop:=
 ∀(σ:Type) (l:Nat) (M:Nat->Nat->Prop) (Bs:σ->Nat->Prop) (J:Nat->σ->World->Prop) (X:σ->World->Prop) (s0:σ) (w:World),dD M w->(∀k,Bs s0 k->∀o,¬M k o)->iG (Bs s0) w->aN M (J 0 s0) w->aN (λk o=>M k o\/Bs s0 k) cap w ->
  (∀k s M' w' v0 v1,k<n->dD M' w'->(∀k,Bs s k->∀o,¬M' k o)->iG (Bs s) w'->aN M' (J k s) w'->aN (λk o=>M' k o\/Bs s k) (λw=>p k w v0) w'->aN (λk o=>M' k o\/Bs s k) (λw=>q k w v1) w' ->
   uh P l #[v0,v1] w' λb w''=>∃s',cE (Bs s) w' w''/\(∀k,Bs s' k->Bs s k\/w'.heap.size<=k)/\iG (Bs s') w''/\aN M' (if b then J (k+1) s' else X s') w'') ->
  Calls P g (#[.func (.yield l) #[] #[]]++lb) w λe w'=>∃v s',e=.returned v/\cE (Bs s0) w w'/\(∀k,Bs s' k->Bs s0 k\/w.heap.size<=k)/\iG (Bs s') w'/\(aN M (J n s') w'\/aN M (X s') w')
def E7 (P:Program) (n:Nat) (p q:Nat->Pred) (cap:Array Value->World->Prop):Pred:=λw v=>∃g lb,v=.func (.func g) #[] lb/\aK P g/\Dy P g lb n p q (cap lb)/\cap lb w
end Wx
