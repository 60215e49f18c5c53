import Derived.RangeFuncNested
import Derived.Test.YtkcceahelokheaaGreatJLT20
namespace Wx
open Go Go.RowKit
section
variable {M M':Nat->Nat->Prop} {B:Nat->Prop} {F:World->Prop} {w w':World}
abbrev WR (B:Nat->Prop):Nat->Nat->Prop:=λk _=>B k
theorem aO.later (h:aO M F w) (he:Ext M w w') (hm:∀k o,k<w.heap.size->M' k o->M k o):aO M' F w':=λw'' h'=>h w''
  ⟨Nat.le_trans he.size h'.size,λk hk hn=>(h'.block k (Nat.lt_of_lt_of_le hk he.size) λo ho=>hn o (hm k o hk ho)).trans (he.block k hk hn),
   λk o v hn hc=>h'.cell k o v (λho=>hn (hm k o (World.block_lt_of_cell? w _ hc) ho)) (he.cell k o v hn hc)⟩
theorem aO.join (h:aO M (aO (WR B) F) w) (hB:∀k,B k->k<w.heap.size):aO (λk o=>M k o\/B k) F w:=by
  intro w'' he
  classical
  let w':World:={ w'' with heap:=w''.heap.mapIdx λi o=>if B i then(w.heap[i]?).getD o else o }
  have hs:w'.heap.size=w''.heap.size:=by simp[w']
  have hg:∀k,w'.heap[k]?=if B k then w.heap[k]? else w''.heap[k]?:=by
    intro k
    show(w''.heap.mapIdx _)[k]?=_
    rw[Array.getElem?_mapIdx]
    by_cases hb:B k
    · have h1:=hB k hb
      have h2:k<w''.heap.size:=Nat.lt_of_lt_of_le h1 he.size
      simp[h1,h2,hb]
    · rw[if_neg hb]
      cases w''.heap[k]?<;>simp[hb]
  refine h w' ⟨by rw[hs]; exact he.size,?_,?_⟩ w'' ⟨by rw[hs]; exact Nat.le_refl _,?_,?_⟩
  · intro k hk hn
    rw[hg]
    by_cases hb:B k
    · rw[if_pos hb]
    · rw[if_neg hb]; exact he.block k hk λo ho=>ho.elim (hn o) hb
  · intro k o v hn hc
    by_cases hb:B k
    · rw[World.cell?_of_block (w:=w) (a:=⟨k,o,none⟩) (by rw[hg,if_pos hb])]; exact hc
    · rw[World.cell?_of_block (w:=w'') (a:=⟨k,o,none⟩) (by rw[hg,if_neg hb])]; exact he.cell k o v (λho=>ho.elim hn hb) hc
  · intro k _ hn
    rw[hg,if_neg (hn 0)]
  · intro k o v hn hc
    rw[World.cell?_of_block (w:=w') (a:=⟨k,o,none⟩) (by rw[hg,if_neg hn])]
    exact hc
end
def Kd.Im:Kd->Bool
  |.grow _ _=>true
  |_=>false
def cQ (V:List Vr):Bool:=V.all λx=>x.born.isNone&&(x.dead.isNone&&!x.kd.Im)
def eC (G:List bz):Bool:=G.all λe=>e.tag.isNone&&e.till.isNone
theorem cJ {V:List Vr} (h:cQ V=true) {x:Vr} (hx:x∈V):live none_ x=true/\x.lo=0/\∀m sz,x.kd≠.grow m sz:=by
  unfold cQ at h
  rw[List.all_eq_true]at h
  have h1:=h x hx
  simp only[Bool.and_eq_true,Option.isNone_iff_eq_none]at h1
  refine⟨by unfold live; rw[h1.1,h1.2.1]; rfl,?_,λm sz e=>by rw[e]at h1; simp[Kd.Im]at h1⟩
  unfold Vr.lo
  cases hk:x.kd with
  |grow m sz=>rw[hk]at h1; simp[Kd.Im]at h1
  |_=>rfl
theorem Ch {G:List bz} (h:eC G=true) {e:bz} (he:e∈G):on none_ e.tag=true/\off none_ e.till=true:=by
  unfold eC at h
  rw[List.all_eq_true]at h
  have h1:=h e he
  simp only[Bool.and_eq_true,Option.isNone_iff_eq_none]at h1
  rw[h1.1,h1.2]
  exact⟨rfl,rfl⟩
def nU (V:List Vr) (β:Nat->Nat->Prop) (k:Nat):Prop:=∃x,x∈V/\β x.id k
def XE (w:World):fT:=⟨0,w,λ_ _=>False,λ_=>True⟩
structure Told (a:Act) (V:List Vr) (G:List bz) (β:Nat->Nat->Prop) (w:World):Prop where
  var:∀x,x∈V->qw (WR (nU V β)) (XE w) none_ β a w x
  apart:∀x y g,x∈V->y∈V->x.id≠y.id->β x.id g->¬β y.id g
  jM:∀e,e∈G->aO (WR (nU V β)) (λw=>e.p w (sl a e.slot)) w
section
variable {c c':fT} {V:List Vr} {A:List Al} {G:List bz} {L:Nat->Bool} {β:Nat->Nat->Prop} {a a':Act} {w w':World} {M:Nat->Nat->Prop}
theorem qw.cfg {x:Vr} (h:qw M c L β a w x) (hm:∀k,β x.id k->mine c' k):qw M c' L β a w x:=by
  rcases mC x.kd with hk|⟨m,sz,hk⟩|hk
  · obtain⟨g,e,h1,h2⟩:=(bJ hk).1 h
    exact(bJ hk).2 ⟨g,e,h1,hm g ((e g).2 rfl),h2.held⟩
  · rcases (bT hk).1 h with h1|⟨b,cap,cur,e,h1,h2,h3⟩
    · exact(bT hk).2 (.inl h1)
    · exact(bT hk).2 (.inr ⟨b,cap,cur,e,h1,hm b ((e b).2 rfl),h3⟩)
  · obtain⟨h1,h2⟩:=(aN hk).1 h
    exact(aN hk).2 ⟨λk hk'=>⟨hm k hk',(h1 k hk').2⟩,h2⟩
theorem bu.nT (h:bu c V A G none_ β a w) (hV:cQ V=true) {k:Nat} (hk:nU V β k):mine c k/\k<w.heap.size/\∀o v,w.cell? ⟨k,o,none⟩=some v->iw v:=by
  obtain⟨x,hx,hb⟩:=hk
  exact(h.var x hx (cJ hV hx).1).blk hb
theorem jE (h:bu c V A G L β a w) {k o:Nat} (hm:mine c k):¬c.M0 k o:=λh0=>by
  have h1:=(h.old k o h0).1
  exact hm.elim (λh2=>by omega) h1.2
theorem bu.told (h:bu c V A G none_ β a w) (hV:cQ V=true) (hG:eC G=true):aO c.M0 (Told a V G β) w:=by
  intro w1 he
  have ho:∀k o,nU V β k->own c V none_ β k o:=λk o ⟨x,hx,hb⟩=>.inr ⟨x,hx,(cJ hV hx).1,hb,by rw[(cJ hV hx).2.1]; exact Nat.zero_le _⟩
  have hn:∀k,nU V β k->∀o,¬c.M0 k o:=λk hk o=>jE h (h.nT hV hk).1
  have e1:Ext (own c V none_ β) w w1:=he.mono λk o _ hk=>.inl hk
  refine⟨λx hx=>?_,λx y g hx hy hne=>h.apart x y g hx hy (cJ hV hx).1 (cJ hV hy).1 hne,λe he'=>?_⟩
  · have hv:=(h.var x hx (cJ hV hx).1).cfg (c':=XE w1) λ_ _=>.inr trivial
    refine hv.keep rfl rfl (λg hg=>he.block g (h.nT hV ⟨x,hx,hg⟩).2.1 (hn g ⟨x,hx,hg⟩)) he.size (λF hF=>(hF.ext e1).sub λk o _ hk=>ho k o hk) (λF hF=>?_) rfl
    have e2:Ext (minus (own c V none_ β) (β x.id)) w w1:=he.mono λk o _ hk=>⟨.inl hk,λhb=>hn k ⟨x,hx,hb⟩ o hk⟩
    exact(hF.ext e2).sub λk o _ hk=>⟨ho k o hk.1,hk.2⟩
  · obtain⟨h1,h2⟩:=Ch hG he'
    exact((h.jM e he' h1 h2).ext e1).sub λk o _ hk=>ho k o hk
theorem Told.act (h:Told a V G β w) (hV:∀x,x∈V->sl a' x.slot=sl a x.slot) (hG:∀e,e∈G->sl a' e.slot=sl a e.slot):Told a' V G β w:=
  ⟨λx hx=>(h.var x hx).keep (hV x hx) rfl (λ_ _=>rfl) (Nat.le_refl _) (λ_ h=>h) (λ_ h=>h) rfl,h.apart,λe he=>by rw[hG e he]; exact h.jM e he⟩
theorem Told.inv (h:aO c.M0 (Told a V G β) w) (hV:cQ V=true) (hs:a.tmps.size=c.N) (hd:a.defers=[]) (hm:∀k,nU V β k->mine c k)
    (Vd:dN c.kr c.w0 w) (hold:∀k o,c.M0 k o->(k<c.w0.heap.size/\¬c.kr k)/\∀v,w.cell? ⟨k,o,none⟩=some v->iw v):bu c V [] G none_ β a w:=by
  have h0:=h.out
  have hn:∀k,nU V β k->∀o,¬c.M0 k o:=λk hk o h0=>(hm k hk).elim (λh2=>by have:=(hold k o h0).1.1; omega) (hold k o h0).1.2
  have hz:∀k,nU V β k->k<w.heap.size:=λk ⟨x,hx,hb⟩=>((h0.var x hx).blk hb).2.1
  have hown:∀k o,own c V none_ β k o->c.M0 k o\/nU V β k:=λk o h=>h.elim .inl λ⟨x,hx,_,hb,_⟩=>.inr ⟨x,hx,hb⟩
  refine⟨hs,hd,Vd,hold,λx hx _=>?_,λx y g hx hy _ _ hne=>h0.apart x y g hx hy hne,(λp hp=>by cases hp),λe he _ _=>?_⟩
  · rcases mC x.kd with hk|⟨m,sz,hk⟩|hk
    · obtain⟨g,e,h1,h2⟩:=(bJ hk).1 (h0.var x hx)
      obtain⟨cs,h3,h4,h5,_⟩:=h2.held
      have hb:nU V β g:=⟨x,hx,(e g).2 rfl⟩
      refine(bJ hk).2 ⟨g,e,h1,hm g hb,cs,h3,h4,h5,?_⟩
      have key:aO c.M0 (aO (WR (nU V β)) λw=>cont none_ x.c0 x.st (·=g) w (aj x.agg cs)) w:=by
        intro w1 he
        obtain⟨g1,e1,_,k2⟩:=(bJ hk).1 ((h w1 he).var x hx)
        obtain⟨cs1,k3,_,_,k6⟩:=k2.held
        have eg:g1=g:=((e1 g).1 ((e g).2 rfl)).symm
        subst eg
        rw[he.block g1 (hz g1 hb) (hn g1 hb),h3]at k3
        have ec:cs=cs1:=by simpa using k3
        subst ec
        exact k6
      exact(key.join hz).sub λk o _ hk=>hown k o hk
    · exact absurd hk ((cJ hV hx).2.2 m sz)
    · obtain⟨h1,_⟩:=(aN hk).1 (h0.var x hx)
      refine(aN hk).2 ⟨λk hk'=>⟨hm k ⟨x,hx,hk'⟩,(h1 k hk').2⟩,?_⟩
      have key:aO c.M0 (aO (WR λk=>nU V β k/\¬β x.id k) λw=>cont none_ x.c0 x.st (β x.id) w (sl a x.slot)) w:=λw1 he=>((aN hk).1 ((h w1 he).var x hx)).2
      exact(key.join λk hk=>hz k hk.1).sub λk o _ hk=>(hown k o hk.1).elim .inl λh=>.inr ⟨h,hk.2⟩
  · have key:aO c.M0 (aO (WR (nU V β)) λw=>e.p w (sl a e.slot)) w:=λw1 hw=>(h w1 hw).jM e he
    exact(key.join hz).sub λk o _ hk=>hown k o hk
theorem bu.DR {d:Nat} {p:Pred} {v:Value} (h:bu c V [] G none_ β a w) (hd:d<c.N) (hV:∀x,x∈V->x.slot≠d) (hG:∀e,e∈G->e.slot≠d) (hp:aO (own c V none_ β) (λw=>p w v) w):bu c V [] (⟨none,none,d,p⟩::G) none_ β (a.put (some d) v) w:=by
  have sd:∀s,s≠d->sl (a.put (some d) v) s=sl a s:=λs hs=>cz λe=>hs (Option.some.inj e).symm
  refine⟨by rw[iH]; exact h.size,by rw[put_defers]; exact h.defers,h.below,h.old,λx hx hl=>(h.var x hx hl).keep (sd _ (hV x hx)) rfl (λ_ _=>rfl) (Nat.le_refl _) (λ_ h=>h) (λ_ h=>h) rfl,h.apart,(λp hp=>by cases hp),λe he ho hf=>?_⟩
  rcases List.mem_cons.1 he with rfl|he
  · show aO _ (λw=>p w (sl (a.put (some d) v) d)) w
    rw[fO (by rw[h.size]; exact hd)]
    exact hp
  · rw[sd _ (hG e he)]
    exact h.jM e he ho hf
abbrev eH (id s:Nat) (R:Rel):Vr:=⟨id,s,none,none,.obj,0,0,false,R,[]⟩
def pW (β:Nat->Nat->Prop) (id:Nat) (B':Nat->Prop) (i:Nat):Nat->Prop:=if i=id then B' else β i
variable {id:Nat} {B':Nat->Prop}
theorem rV {β:Nat->Nat->Prop}:pW β id B' id=B':=if_pos rfl
theorem yC {β:Nat->Nat->Prop} {i:Nat} (h:i≠id):pW β id B' i=β i:=if_neg h
theorem bu.move {s n0:Nat} {R R':Rel} (h:bu c V [] G none_ β a w) (hV:cQ V=true) (hG:eC G=true) (hk:V[n0]?=some (eH id s R)) (hu:∀(y:Vr) (n:Nat),V[n]?=some y->y.id=id->n=n0) (hle:dN (β id) w w')
    (hB:∀k,B' k->β id k\/w.heap.size<=k) (hno:∀k,B' k->k<w'.heap.size/\∀o v,w'.cell? ⟨k,o,none⟩=some v->iw v) (hR:aO (minus (own c V none_ β) (β id)) (λw=>R' B' w (sl a s)) w'):
    bu c (V.set n0 (eH id s R')) [] G none_ (pW β id B') a w':=by
  have hx:=List.mem_of_getElem? hk
  have Fh:=(List.getElem?_eq_some_iff.1 hk).1
  have hmem:∀y,y∈V.set n0 (eH id s R')->y=eH id s R'\/(y∈V/\y.id≠id):=by
    intro y hy
    obtain⟨n,hn⟩:=List.mem_iff_getElem?.1 hy
    rw[List.getElem?_set]at hn
    by_cases he:n0=n
    · rw[if_pos he,if_pos Fh]at hn
      exact .inl (Option.some.inj hn).symm
    · rw[if_neg he]at hn
      exact .inr ⟨List.mem_of_getElem? hn,λe=>he (hu y n hn e).symm⟩
  have fF:∀k,β id k->mine c k:=λk hk'=>(h.nT hV ⟨_,hx,hk'⟩).1
  have Y0:dN c.kr c.w0 w':=⟨hle.os.trans h.below.os,hle.tape.trans h.below.tape,hle.output.trans h.below.output,Nat.le_trans h.below.size hle.size,λk hk' hn=>(hle.block k (Nat.lt_of_lt_of_le hk' h.below.size) λhb=>(fF k hb).elim (λh3=>by omega) hn).trans (h.below.block k hk' hn)⟩
  have Vq:∀k,B' k->mine c k:=λk hk'=>(hB k hk').elim (fF k) λh1=>.inl (Nat.le_trans h.below.size h1)
  have ob:∀k o,β id k->own c V none_ β k o:=λk o hk'=>.inr ⟨_,hx,rfl,hk',Nat.zero_le _⟩
  have e1:Ext (own c V none_ β) w w':=Ext.yx hle λk o _ hk'=>ob k o hk'
  have hβ:∀y:Vr,y.id≠id->(pW β id B') y.id=β y.id:=λy hy=>yC hy
  have Zk:(pW β id B') id=B':=rV
  have hown:∀k o,k<w.heap.size->own c (V.set n0 (eH id s R')) none_ (pW β id B') k o->own c V none_ β k o:=by
    rintro k o hk' (h1|⟨y,hy,h1,h2,h3⟩)
    · exact .inl h1
    · rcases hmem y hy with rfl|⟨ik,hid⟩
      · have h2:(pW β id B') id k:=h2
        rw[Zk]at h2
        exact(hB k h2).elim (ob k o) λh4=>by omega
      · rw[hβ y hid]at h2
        exact .inr ⟨y,ik,(cJ hV ik).1,h2,h3⟩
  refine⟨h.size,h.defers,Y0,λk o h0=>⟨(h.old k o h0).1,λv hv=>(h.old k o h0).2 v ?_⟩,λy hy _=>?_,λy y' g hy hy' _ _ hne=>?_,(λp hp=>by cases hp),λe he ho hf=>?_⟩
  · have hk':k<w.heap.size:=Nat.lt_of_lt_of_le (h.old k o h0).1.1 h.below.size
    rw[World.cell?_of_block (w:=w) (a:=⟨k,o,none⟩) (hle.block k hk' λhb=>jE h (fF k hb) h0)]at hv
    exact hv
  · rcases hmem y hy with rfl|⟨ik,hid⟩
    · refine(aN rfl).2 ?_
      show yI _ c none_ a w' _ ((pW β id B') id)
      rw[Zk]
      refine⟨λk hk'=>⟨Vq k hk',hno k hk'⟩,?_⟩
      refine hR.sub λk o _ hk'=>?_
      rcases hk'.1 with h1|⟨y,hy,h1,h2,h3⟩
      · exact⟨.inl h1,λhb=>jE h (fF k hb) h1⟩
      · rcases hmem y hy with rfl|⟨ik,hid⟩
        · have h2:(pW β id B') id k:=h2
          rw[Zk]at h2
          exact absurd h2 hk'.2
        · rw[hβ y hid]at h2
          exact⟨.inr ⟨y,ik,(cJ hV ik).1,h2,h3⟩,h.apart y _ k ik hx (cJ hV ik).1 rfl hid h2⟩
    · have hl:=(cJ hV ik).1
      have O1:∀g,β y.id g->¬β id g:=λg hg=>h.apart y _ g ik hx hl rfl hid hg
      have hlt:∀g,β y.id g->g<w.heap.size:=λg hg=>(h.nT hV ⟨y,ik,hg⟩).2.1
      refine(h.var y ik hl).keep rfl (hβ y hid) (λg hg=>hle.block g (hlt g hg) (O1 g hg)) hle.size (λF hF=>hF.later e1 hown) (λF hF=>?_) rfl
      have e4:Ext (minus (own c V none_ β) (β y.id)) w w':=Ext.yx hle λk j _ hk'=>⟨ob k j hk',λhy'=>O1 k hy' hk'⟩
      exact hF.later e4 λk o hk' h=>⟨hown k o hk' h.1,h.2⟩
  · rcases hmem y hy with rfl|⟨ik,hid⟩<;>rcases hmem y' hy' with rfl|⟨AV,RL⟩
    · exact absurd rfl hne
    · show(pW β id B') id g->_
      rw[Zk,hβ y' RL]
      intro h1 h2
      rcases hB g h1 with h3|h3
      · exact h.apart _ y' g hx AV rfl (cJ hV AV).1 (λe=>RL e.symm) h3 h2
      · have:=(h.nT hV ⟨y',AV,h2⟩).2.1
        omega
    · show _->¬(pW β id B') id g
      rw[Zk,hβ y hid]
      intro h2 h1
      rcases hB g h1 with h3|h3
      · exact h.apart y _ g ik hx (cJ hV ik).1 rfl hid h2 h3
      · have:=(h.nT hV ⟨y,ik,h2⟩).2.1
        omega
    · rw[hβ y hid,hβ y' RL]
      exact h.apart y y' g ik AV (cJ hV ik).1 (cJ hV AV).1 hne
  · obtain⟨k1,k2⟩:=Ch hG he
    exact(h.jM e he k1 k2).later e1 hown
end
end Wx

namespace Wx
open Go Go.RowKit
def Wc (l D:Nat) (r:Loop):Rel:=λB w _=>(∀k,B k↔k=l\/k=D)/\w.heap[l]?=some (.loop r)/\w.heap[D]?=some (.deferred (some []))/\D<l
abbrev fN (id l D:Nat) (r:Loop):Vr:=eH id id (Wc l D r)
def QV (a:Act) (s:Nat):bz:=⟨none,none,s,bg (sl a s)⟩
def ou (B:Nat->Prop) (w:World):Prop:=∀k,B k->k<w.heap.size/\∀o v,w.cell? ⟨k,o,none⟩=some v->iw v
def jo (V:List Vr) (id n0:Nat):Bool:=V.zipIdx.all λq=>q.1.id != id||q.2==n0
theorem iJ {V:List Vr} {id n0:Nat} (h:jo V id n0=true) (y:Vr) (n:Nat) (hn:V[n]?=some y) (hy:y.id=id):n=n0:=by
 unfold jo at h
 rw[List.all_eq_true]at h
 have h1:=h (y,n) (List.mem_iff_getElem?.2 ⟨n,by simp[List.getElem?_zipIdx,hn]⟩)
 simpa [hy] using h1
variable {w:World}
theorem l7 {k o:Nat} {ob:Obj} (h:w.heap[k]?=some ob) (hc:ob.isCells=false) (v:Value):w.cell? ⟨k,o,none⟩≠some v:=by
 intro e
 obtain⟨o',h1,h2⟩:=cells_of_cell e
 rw[h]at h1
 injection h1 with h1
 rw[<-h1,hc]at h2
 cases h2
theorem xn {B:Nat->Prop} {l:Nat} (o:Obj) (hl:B l):dN B w (w.putObj l o):=
 ⟨rfl,rfl,rfl,by rw[World.putObj_size]; exact Nat.le_refl _,λk _ hn=>World.putObj_heap_other λe=>hn (e▸hl)⟩
section
variable {P:Program} {Q:Exit->Act->World->Prop} {c:fT} {V:List Vr} {G:List bz} {β:Nat->Nat->Prop} {a a':Act} {w w':World}
theorem bu.ZQ (h:bu c V [] G none_ β a w) (S:List Nat):bu c V [] (G++S.map (QV a)) none_ β a w:=by
 refine⟨h.size,h.defers,h.below,h.old,h.var,h.apart,h.al,λe he ho hf=>?_⟩
 rcases List.mem_append.1 he with he|he
 ·exact h.jM e he ho hf
 ·obtain⟨s,_,rfl⟩:=List.mem_map.1 he
  exact aO.always rfl _
theorem bu.Km {G':List bz} (h:bu c V [] G none_ β a w) (hg:∀e,e∈G'->e∈G):bu c V [] G' none_ β a w:=
 ⟨h.size,h.defers,h.below,h.old,h.var,h.apart,h.al,λe he ho hf=>h.jM e (hg e he) ho hf⟩
variable {id n0 l D:Nat} {r:Loop}
theorem bu.MK (h:bu c V [] G none_ β a w) (hk:V[n0]?=some (fN id l D r)):(∀k,β id k↔k=l\/k=D)/\w.heap[l]?=some (.loop r)/\w.heap[D]?=some (.deferred (some []))/\D<l:=
 ((aN rfl).1 (h.var _ (List.mem_of_getElem? hk) rfl)).2.out
theorem bu.record (r':Loop) (h:bu c V [] G none_ β a w) (hV:cQ V=true) (hG:eC G=true) (hk:V[n0]?=some (fN id l D r)) (hu:jo V id n0=true):∃β',bu c (V.set n0 (fN id l D r')) [] G none_ β' a (w.putObj l (.loop r')):=by
 obtain⟨h1,h2,h3,h4⟩:=h.MK hk
 have hlt:l<w.heap.size:=(Array.getElem?_eq_some_iff.1 h2).1
 have hl2:(w.putObj l (.loop r')).heap[l]?=some (.loop r'):=World.putObj_heap_same hlt
 have RJ:(w.putObj l (.loop r')).heap[D]?=some (.deferred (some [])):=(World.putObj_heap_other (by omega)).trans h3
 refine⟨_,h.move (B':=β id) (R':=Wc l D r') hV hG hk (iJ hu) (xn _ ((h1 l).2 (.inl rfl))) (λk hk'=>.inl hk') (λk hk'=>?_) ?_⟩
 ·rw[World.putObj_size]
  rcases (h1 k).1 hk' with rfl|rfl
  ·exact⟨hlt,λo v hv=>absurd hv (l7 hl2 rfl v)⟩
  ·exact⟨by omega,λo v hv=>absurd hv (l7 RJ rfl v)⟩
 ·intro w'' he
  have hb:∀k,β id k->w''.heap[k]?=(w.putObj l (.loop r')).heap[k]?:=λk hk'=>he.block k (by rw[World.putObj_size]; rcases (h1 k).1 hk' with rfl|rfl<;>omega) λo ho=>ho.2 hk'
  exact⟨h1,(hb l ((h1 l).2 (.inl rfl))).trans hl2,(hb D ((h1 D).2 (.inr rfl))).trans RJ,h4⟩
def Tg (l:Nat) (P:Program) (body:Code) (Q:Exit->Act->World->Prop) (a:Act) (w:World):Prop:=∃w2,(Instr.beginRound l).run P w=.ok () w2/\body.ww (some l) [] P Q a w2
theorem GU {body:Code} (hI:Inv c V [] G none_ a w) (n0:Nat) (hr:r.state=.ready) (h:∀w,Inv c (V.set n0 (fN id l D { r with state:=.busy })) [] G none_ a w->body.ww (some l) [] P Q a w)
  (hk:V[n0]?=some (fN id l D r):=by exact rfl) (hV:cQ V=true:=by kernel_rfl) (hG:eC G=true:=by kernel_rfl) (hu:jo V id n0=true:=by kernel_rfl):Tg l P body Q a w:=by
 obtain⟨β,hI⟩:=hI
 exact⟨_,run_beginRound (hI.MK hk).2.1 hr,h _ (hI.record _ hV hG hk hu)⟩
theorem end_ {S:List Nat} {a0:Act} (jump:Option Code) (hI:Inv c V [] (G++S.map (QV a0)) none_ a w) (hk:V[n0]?=some (fN id l D r)) (hV:cQ V=true) (hG:eC G=true) (hu:jo V id n0=true)
  (hVS:∀x,x∈V->x.slot∈S\/sl a x.slot=sl a0 x.slot) (TE:∀e,e∈G->e.slot∈S):
  ∃β' w4,(Instr.endRound l jump).run P w=.ok (.bool jump.isNone) w4/\dN c.kr c.w0 w4/\(∀k,nU (V.set n0 (fN id l D { r with state:=if jump.isNone then .ready else .done,pending:=jump })) β' k->mine c k) /\
   ou (nU (V.set n0 (fN id l D { r with state:=if jump.isNone then .ready else .done,pending:=jump })) β') w4/\aO c.M0 (Told a0 (V.set n0 (fN id l D { r with state:=if jump.isNone then .ready else .done,pending:=jump })) G β') w4:=by
 obtain⟨β,hI⟩:=hI
 have heq:∀s,s∈S->sl a0 s=sl a s:=λs hs=>((hI.jM (QV a0 s) (List.mem_append_right _ (List.mem_map.2 ⟨s,hs,rfl⟩)) rfl rfl).out:sl a s=sl a0 s).symm
 have TF:=hI.Km (G':=G) λe he=>List.mem_append_left _ he
 obtain⟨β',h4⟩:=TF.record { r with state:=if jump.isNone then .ready else .done,pending:=jump } hV hG hk hu
 have hV4:cQ (V.set n0 (fN id l D { r with state:=if jump.isNone then .ready else .done,pending:=jump }))=true:=by
  unfold cQ at hV ⊢
  rw[List.all_eq_true]at hV ⊢
  intro x hx
  rcases List.mem_or_eq_of_mem_set hx with hx|rfl
  ·exact hV x hx
  ·rfl
 refine⟨β',_,run_endRound jump (TF.MK hk).2.1,h4.below,λk hk'=>(h4.nT hV4 hk').1,λk hk'=>(h4.nT hV4 hk').2,(h4.told hV4 hG).imp λw ht=>ht.act (λx hx=>?_) λe he=>heq _ (TE e he)⟩
 rcases List.mem_or_eq_of_mem_set hx with hx|rfl
 ·exact(hVS x hx).elim (heq _) λh=>h.symm
 ·exact(hVS (fN id l D r) (List.mem_of_getElem? hk)).elim (heq _) λh=>h.symm
end
def CL (P:Program) (l:Nat) (vs:Array Value) (w:World) (R:Bool->World->Prop):Prop:=∀n,YieldAt (Ka none) n P l vs w λe w'=>∃b,e=.returned (.bool b)/\R b w'
def NR (P:Program) (g:FuncId) (lb:Array Value) (n:Nat) (p q:Nat->Pred) (cap:World->Prop):Prop:=
 ∀(σ:Type) (l:Nat) (M:Nat->Nat->Prop) (Bs:σ->Nat->Prop) (J:Nat->σ->World->Prop) (X:σ->World->Prop) (s0:σ) (w:World),cL M w->(∀k,Bs s0 k->∀o,¬M k o)->ou (Bs s0) w->aO M (J 0 s0) w->aO (λk o=>M k o\/Bs s0 k) cap w ->
  (∀k s M' w' v0 v1,k<n->cL M' w'->(∀k,Bs s k->∀o,¬M' k o)->ou (Bs s) w'->aO M' (J k s) w'->aO (λk o=>M' k o\/Bs s k) (λw=>p k w v0) w'->aO (λk o=>M' k o\/Bs s k) (λw=>q k w v1) w' ->
   CL P l #[v0,v1] w' λb w''=>∃s',dN (Bs s) w' w''/\(∀k,Bs s' k->Bs s k\/w'.heap.size<=k)/\ou (Bs s') w''/\aO M' (if b then J (k+1) s' else X s') w'') ->
  Calls P g (#[.func (.yield l) #[] #[]]++lb) w λe w'=>∃v s',e=.returned v/\dN (Bs s0) w w'/\(∀k,Bs s' k->Bs s0 k\/w.heap.size<=k)/\ou (Bs s') w'/\(aO M (J n s') w'\/aO M (X s') w')
def P2 (P:Program) (n:Nat) (p q:Nat->Pred) (cap:Array Value->World->Prop):Pred:=λw v=>∃g lb,v=.func (.func g) #[] lb/\aR P g/\NR P g lb n p q (cap lb)/\cap lb w
end Wx
