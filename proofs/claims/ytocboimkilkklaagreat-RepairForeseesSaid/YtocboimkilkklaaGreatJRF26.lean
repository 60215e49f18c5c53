import Derived.RangeFuncNested
import Derived.Test.YtocboimkilkklaaGreatJRF21
namespace Wx
open Go Go.RowKit
section
variable {M M':Nat->Nat->Prop} {B:Nat->Prop} {F:World->Prop} {w w':World}
abbrev P0 (B:Nat->Prop):Nat->Nat->Prop:=λk _=>B k
theorem aL.later (h:aL M F w) (he:Ext M w w') (hm:∀k o,k<w.heap.size->M' k o->M k o):aL M' F w':=λw'' h'=>h w''
  ⟨Nat.le_trans he.size h'.size,λk hk hn=>(h'.block k (Nat.lt_of_lt_of_le hk he.size) λo ho=>hn o (hm k o hk ho)).trans (he.block k hk hn),
   λk o v hn hc=>h'.cell k o v (λho=>hn (hm k o (World.block_lt_of_cell? w _ hc) ho)) (he.cell k o v hn hc)⟩
theorem aL.join (h:aL M (aL (P0 B) F) w) (hB:∀k,B k->k<w.heap.size):aL (λk o=>M k o\/B k) F w:=by
  intro w'' he
  classical
  let w':World:={ w'' with heap:=w''.heap.mapIdx λi o=>if B i then(w.heap[i]?).getD o else o }
  have hs:w'.heap.size=w''.heap.size:=by simp[w']
  have hg:∀k,w'.heap[k]?=if B k then w.heap[k]? else w''.heap[k]?:=by
    intro k
    show(w''.heap.mapIdx _)[k]?=_
    rw[Array.getElem?_mapIdx]
    by_cases hb:B k
    · have h1:=hB k hb
      have h2:k<w''.heap.size:=Nat.lt_of_lt_of_le h1 he.size
      simp[h1,h2,hb]
    · rw[if_neg hb]
      cases w''.heap[k]?<;>simp[hb]
  refine h w' ⟨by rw[hs]; exact he.size,?_,?_⟩ w'' ⟨by rw[hs]; exact Nat.le_refl _,?_,?_⟩
  · intro k hk hn
    rw[hg]
    by_cases hb:B k
    · rw[if_pos hb]
    · rw[if_neg hb]; exact he.block k hk λo ho=>ho.elim (hn o) hb
  · intro k o v hn hc
    by_cases hb:B k
    · rw[World.cell?_of_block (w:=w) (a:=⟨k,o,none⟩) (by rw[hg,if_pos hb])]; exact hc
    · rw[World.cell?_of_block (w:=w'') (a:=⟨k,o,none⟩) (by rw[hg,if_neg hb])]; exact he.cell k o v (λho=>ho.elim hn hb) hc
  · intro k _ hn
    rw[hg,if_neg (hn 0)]
  · intro k o v hn hc
    rw[World.cell?_of_block (w:=w') (a:=⟨k,o,none⟩) (by rw[hg,if_neg hn])]
    exact hc
end
def Kd.Cz:Kd->Bool
  |.grow _ _=>true
  |_=>false
def dw (V:List Vr):Bool:=V.all λx=>x.born.isNone&&(x.dead.isNone&&!x.kd.Cz)
def eI (G:List bI):Bool:=G.all λe=>e.tag.isNone&&e.till.isNone
theorem cJ {V:List Vr} (h:dw V=true) {x:Vr} (hx:x∈V):live none_ x=true/\x.lo=0/\∀m sz,x.kd≠.grow m sz:=by
  unfold dw at h
  rw[List.all_eq_true]at h
  have h1:=h x hx
  simp only[Bool.and_eq_true,Option.isNone_iff_eq_none]at h1
  refine⟨by unfold live; rw[h1.1,h1.2.1]; rfl,?_,λm sz e=>by rw[e]at h1; simp[Kd.Cz]at h1⟩
  unfold Vr.lo
  cases hk:x.kd with
  |grow m sz=>rw[hk]at h1; simp[Kd.Cz]at h1
  |_=>rfl
theorem xL {G:List bI} (h:eI G=true) {e:bI} (he:e∈G):on none_ e.tag=true/\off none_ e.till=true:=by
  unfold eI at h
  rw[List.all_eq_true]at h
  have h1:=h e he
  simp only[Bool.and_eq_true,Option.isNone_iff_eq_none]at h1
  rw[h1.1,h1.2]
  exact⟨rfl,rfl⟩
def kq (V:List Vr) (β:Nat->Nat->Prop) (k:Nat):Prop:=∃x,x∈V/\β x.id k
def Qt (w:World):eL:=⟨0,w,λ_ _=>False,λ_=>True⟩
structure Told (a:Act) (V:List Vr) (G:List bI) (β:Nat->Nat->Prop) (w:World):Prop where
  var:∀x,x∈V->mB (P0 (kq V β)) (Qt w) none_ β a w x
  apart:∀x y g,x∈V->y∈V->x.id≠y.id->β x.id g->¬β y.id g
  kH:∀e,e∈G->aL (P0 (kq V β)) (λw=>e.p w (sl a e.slot)) w
section
variable {c c':eL} {V:List Vr} {A:List Al} {G:List bI} {L:Nat->Bool} {β:Nat->Nat->Prop} {a a':Act} {w w':World} {M:Nat->Nat->Prop}
theorem mB.cfg {x:Vr} (h:mB M c L β a w x) (hm:∀k,β x.id k->mine c' k):mB M c' L β a w x:=by
  rcases js x.kd with hk|⟨m,sz,hk⟩|hk
  · obtain⟨g,e,h1,h2⟩:=(cC hk).1 h
    exact(cC hk).2 ⟨g,e,h1,hm g ((e g).2 rfl),h2.held⟩
  · rcases (cK hk).1 h with h1|⟨b,cap,cur,e,h1,h2,h3⟩
    · exact(cK hk).2 (.inl h1)
    · exact(cK hk).2 (.inr ⟨b,cap,cur,e,h1,hm b ((e b).2 rfl),h3⟩)
  · obtain⟨h1,h2⟩:=(bh hk).1 h
    exact(bh hk).2 ⟨λk hk'=>⟨hm k hk',(h1 k hk').2⟩,h2⟩
theorem bO.kp (h:bO c V A G none_ β a w) (hV:dw V=true) {k:Nat} (hk:kq V β k):mine c k/\k<w.heap.size/\∀o v,w.cell? ⟨k,o,none⟩=some v->fq v:=by
  obtain⟨x,hx,hb⟩:=hk
  exact(h.var x hx (cJ hV hx).1).blk hb
theorem ju (h:bO c V A G L β a w) {k o:Nat} (hm:mine c k):¬c.M0 k o:=λh0=>by
  have h1:=(h.old k o h0).1
  exact hm.elim (λh2=>by omega) h1.2
theorem bO.told (h:bO c V A G none_ β a w) (hV:dw V=true) (hG:eI G=true):aL c.M0 (Told a V G β) w:=by
  intro w1 he
  have ho:∀k o,kq V β k->own c V none_ β k o:=λk o ⟨x,hx,hb⟩=>.inr ⟨x,hx,(cJ hV hx).1,hb,by rw[(cJ hV hx).2.1]; exact Nat.zero_le _⟩
  have hn:∀k,kq V β k->∀o,¬c.M0 k o:=λk hk o=>ju h (h.kp hV hk).1
  have e1:Ext (own c V none_ β) w w1:=he.mono λk o _ hk=>.inl hk
  refine⟨λx hx=>?_,λx y g hx hy hne=>h.apart x y g hx hy (cJ hV hx).1 (cJ hV hy).1 hne,λe he'=>?_⟩
  · have hv:=(h.var x hx (cJ hV hx).1).cfg (c':=Qt w1) λ_ _=>.inr trivial
    refine hv.keep rfl rfl (λg hg=>he.block g (h.kp hV ⟨x,hx,hg⟩).2.1 (hn g ⟨x,hx,hg⟩)) he.size (λF hF=>(hF.ext e1).sub λk o _ hk=>ho k o hk) (λF hF=>?_) rfl
    have e2:Ext (minus (own c V none_ β) (β x.id)) w w1:=he.mono λk o _ hk=>⟨.inl hk,λhb=>hn k ⟨x,hx,hb⟩ o hk⟩
    exact(hF.ext e2).sub λk o _ hk=>⟨ho k o hk.1,hk.2⟩
  · obtain⟨h1,h2⟩:=xL hG he'
    exact((h.kH e he' h1 h2).ext e1).sub λk o _ hk=>ho k o hk
theorem Told.act (h:Told a V G β w) (hV:∀x,x∈V->sl a' x.slot=sl a x.slot) (hG:∀e,e∈G->sl a' e.slot=sl a e.slot):Told a' V G β w:=
  ⟨λx hx=>(h.var x hx).keep (hV x hx) rfl (λ_ _=>rfl) (Nat.le_refl _) (λ_ h=>h) (λ_ h=>h) rfl,h.apart,λe he=>by rw[hG e he]; exact h.kH e he⟩
theorem Told.inv (h:aL c.M0 (Told a V G β) w) (hV:dw V=true) (hs:a.tmps.size=c.N) (hd:a.defers=[]) (hm:∀k,kq V β k->mine c k)
    (OE:er c.jt c.w0 w) (hold:∀k o,c.M0 k o->(k<c.w0.heap.size/\¬c.jt k)/\∀v,w.cell? ⟨k,o,none⟩=some v->fq v):bO c V [] G none_ β a w:=by
  have h0:=h.out
  have hn:∀k,kq V β k->∀o,¬c.M0 k o:=λk hk o h0=>(hm k hk).elim (λh2=>by have:=(hold k o h0).1.1; omega) (hold k o h0).1.2
  have hz:∀k,kq V β k->k<w.heap.size:=λk ⟨x,hx,hb⟩=>((h0.var x hx).blk hb).2.1
  have hown:∀k o,own c V none_ β k o->c.M0 k o\/kq V β k:=λk o h=>h.elim .inl λ⟨x,hx,_,hb,_⟩=>.inr ⟨x,hx,hb⟩
  refine⟨hs,hd,OE,hold,λx hx _=>?_,λx y g hx hy _ _ hne=>h0.apart x y g hx hy hne,(λp hp=>by cases hp),λe he _ _=>?_⟩
  · rcases js x.kd with hk|⟨m,sz,hk⟩|hk
    · obtain⟨g,e,h1,h2⟩:=(cC hk).1 (h0.var x hx)
      obtain⟨cs,h3,h4,h5,_⟩:=h2.held
      have hb:kq V β g:=⟨x,hx,(e g).2 rfl⟩
      refine(cC hk).2 ⟨g,e,h1,hm g hb,cs,h3,h4,h5,?_⟩
      have key:aL c.M0 (aL (P0 (kq V β)) λw=>cont none_ x.c0 x.st (·=g) w (aA x.agg cs)) w:=by
        intro w1 he
        obtain⟨g1,e1,_,k2⟩:=(cC hk).1 ((h w1 he).var x hx)
        obtain⟨cs1,k3,_,_,k6⟩:=k2.held
        have eg:g1=g:=((e1 g).1 ((e g).2 rfl)).symm
        subst eg
        rw[he.block g1 (hz g1 hb) (hn g1 hb),h3]at k3
        have ec:cs=cs1:=by simpa using k3
        subst ec
        exact k6
      exact(key.join hz).sub λk o _ hk=>hown k o hk
    · exact absurd hk ((cJ hV hx).2.2 m sz)
    · obtain⟨h1,_⟩:=(bh hk).1 (h0.var x hx)
      refine(bh hk).2 ⟨λk hk'=>⟨hm k ⟨x,hx,hk'⟩,(h1 k hk').2⟩,?_⟩
      have key:aL c.M0 (aL (P0 λk=>kq V β k/\¬β x.id k) λw=>cont none_ x.c0 x.st (β x.id) w (sl a x.slot)) w:=λw1 he=>((bh hk).1 ((h w1 he).var x hx)).2
      exact(key.join λk hk=>hz k hk.1).sub λk o _ hk=>(hown k o hk.1).elim .inl λh=>.inr ⟨h,hk.2⟩
  · have key:aL c.M0 (aL (P0 (kq V β)) λw=>e.p w (sl a e.slot)) w:=λw1 hw=>(h w1 hw).kH e he
    exact(key.join hz).sub λk o _ hk=>hown k o hk
theorem bO.rD {d:Nat} {p:Pred} {v:Value} (h:bO c V [] G none_ β a w) (hd:d<c.N) (hV:∀x,x∈V->x.slot≠d) (hG:∀e,e∈G->e.slot≠d) (hp:aL (own c V none_ β) (λw=>p w v) w):bO c V [] (⟨none,none,d,p⟩::G) none_ β (a.put (some d) v) w:=by
  have sd:∀s,s≠d->sl (a.put (some d) v) s=sl a s:=λs hs=>dB λe=>hs (Option.some.inj e).symm
  refine⟨by rw[lq]; exact h.size,by rw[put_defers]; exact h.defers,h.below,h.old,λx hx hl=>(h.var x hx hl).keep (sd _ (hV x hx)) rfl (λ_ _=>rfl) (Nat.le_refl _) (λ_ h=>h) (λ_ h=>h) rfl,h.apart,(λp hp=>by cases hp),λe he ho hf=>?_⟩
  rcases List.mem_cons.1 he with rfl|he
  · show aL _ (λw=>p w (sl (a.put (some d) v) d)) w
    rw[kD (by rw[h.size]; exact hd)]
    exact hp
  · rw[sd _ (hG e he)]
    exact h.kH e he ho hf
abbrev fM (id s:Nat) (R:Rel):Vr:=⟨id,s,none,none,.obj,0,0,false,R,[]⟩
def lu (β:Nat->Nat->Prop) (id:Nat) (B':Nat->Prop) (i:Nat):Nat->Prop:=if i=id then B' else β i
variable {id:Nat} {B':Nat->Prop}
theorem rG {β:Nat->Nat->Prop}:lu β id B' id=B':=if_pos rfl
theorem zm {β:Nat->Nat->Prop} {i:Nat} (h:i≠id):lu β id B' i=β i:=if_neg h
theorem bO.move {s n0:Nat} {R R':Rel} (h:bO c V [] G none_ β a w) (hV:dw V=true) (hG:eI G=true) (hk:V[n0]?=some (fM id s R)) (hu:∀(y:Vr) (n:Nat),V[n]?=some y->y.id=id->n=n0) (hle:er (β id) w w')
    (hB:∀k,B' k->β id k\/w.heap.size<=k) (hno:∀k,B' k->k<w'.heap.size/\∀o v,w'.cell? ⟨k,o,none⟩=some v->fq v) (hR:aL (minus (own c V none_ β) (β id)) (λw=>R' B' w (sl a s)) w'):
    bO c (V.set n0 (fM id s R')) [] G none_ (lu β id B') a w':=by
  have hx:=List.mem_of_getElem? hk
  have zy:=(List.getElem?_eq_some_iff.1 hk).1
  have hmem:∀y,y∈V.set n0 (fM id s R')->y=fM id s R'\/(y∈V/\y.id≠id):=by
    intro y hy
    obtain⟨n,hn⟩:=List.mem_iff_getElem?.1 hy
    rw[List.getElem?_set]at hn
    by_cases he:n0=n
    · rw[if_pos he,if_pos zy]at hn
      exact .inl (Option.some.inj hn).symm
    · rw[if_neg he]at hn
      exact .inr ⟨List.mem_of_getElem? hn,λe=>he (hu y n hn e).symm⟩
  have kQ:∀k,β id k->mine c k:=λk hk'=>(h.kp hV ⟨_,hx,hk'⟩).1
  have RJ:er c.jt c.w0 w':=⟨hle.os.trans h.below.os,hle.tape.trans h.below.tape,hle.output.trans h.below.output,Nat.le_trans h.below.size hle.size,λk hk' hn=>(hle.block k (Nat.lt_of_lt_of_le hk' h.below.size) λhb=>(kQ k hb).elim (λh3=>by omega) hn).trans (h.below.block k hk' hn)⟩
  have OT:∀k,B' k->mine c k:=λk hk'=>(hB k hk').elim (kQ k) λh1=>.inl (Nat.le_trans h.below.size h1)
  have ob:∀k o,β id k->own c V none_ β k o:=λk o hk'=>.inr ⟨_,hx,rfl,hk',Nat.zero_le _⟩
  have e1:Ext (own c V none_ β) w w':=Ext.En hle λk o _ hk'=>ob k o hk'
  have hβ:∀y:Vr,y.id≠id->(lu β id B') y.id=β y.id:=λy hy=>zm hy
  have R8:(lu β id B') id=B':=rG
  have hown:∀k o,k<w.heap.size->own c (V.set n0 (fM id s R')) none_ (lu β id B') k o->own c V none_ β k o:=by
    rintro k o hk' (h1|⟨y,hy,h1,h2,h3⟩)
    · exact .inl h1
    · rcases hmem y hy with rfl|⟨rU,hid⟩
      · have h2:(lu β id B') id k:=h2
        rw[R8]at h2
        exact(hB k h2).elim (ob k o) λh4=>by omega
      · rw[hβ y hid]at h2
        exact .inr ⟨y,rU,(cJ hV rU).1,h2,h3⟩
  refine⟨h.size,h.defers,RJ,λk o h0=>⟨(h.old k o h0).1,λv hv=>(h.old k o h0).2 v ?_⟩,λy hy _=>?_,λy y' g hy hy' _ _ hne=>?_,(λp hp=>by cases hp),λe he ho hf=>?_⟩
  · have hk':k<w.heap.size:=Nat.lt_of_lt_of_le (h.old k o h0).1.1 h.below.size
    rw[World.cell?_of_block (w:=w) (a:=⟨k,o,none⟩) (hle.block k hk' λhb=>ju h (kQ k hb) h0)]at hv
    exact hv
  · rcases hmem y hy with rfl|⟨rU,hid⟩
    · refine(bh rfl).2 ?_
      show zD _ c none_ a w' _ ((lu β id B') id)
      rw[R8]
      refine⟨λk hk'=>⟨OT k hk',hno k hk'⟩,?_⟩
      refine hR.sub λk o _ hk'=>?_
      rcases hk'.1 with h1|⟨y,hy,h1,h2,h3⟩
      · exact⟨.inl h1,λhb=>ju h (kQ k hb) h1⟩
      · rcases hmem y hy with rfl|⟨rU,hid⟩
        · have h2:(lu β id B') id k:=h2
          rw[R8]at h2
          exact absurd h2 hk'.2
        · rw[hβ y hid]at h2
          exact⟨.inr ⟨y,rU,(cJ hV rU).1,h2,h3⟩,h.apart y _ k rU hx (cJ hV rU).1 rfl hid h2⟩
    · have hl:=(cJ hV rU).1
      have RP:∀g,β y.id g->¬β id g:=λg hg=>h.apart y _ g rU hx hl rfl hid hg
      have hlt:∀g,β y.id g->g<w.heap.size:=λg hg=>(h.kp hV ⟨y,rU,hg⟩).2.1
      refine(h.var y rU hl).keep rfl (hβ y hid) (λg hg=>hle.block g (hlt g hg) (RP g hg)) hle.size (λF hF=>hF.later e1 hown) (λF hF=>?_) rfl
      have e4:Ext (minus (own c V none_ β) (β y.id)) w w':=Ext.En hle λk j _ hk'=>⟨ob k j hk',λhy'=>RP k hy' hk'⟩
      exact hF.later e4 λk o hk' h=>⟨hown k o hk' h.1,h.2⟩
  · rcases hmem y hy with rfl|⟨rU,hid⟩<;>rcases hmem y' hy' with rfl|⟨IQ,OJ⟩
    · exact absurd rfl hne
    · show(lu β id B') id g->_
      rw[R8,hβ y' OJ]
      intro h1 h2
      rcases hB g h1 with h3|h3
      · exact h.apart _ y' g hx IQ rfl (cJ hV IQ).1 (λe=>OJ e.symm) h3 h2
      · have:=(h.kp hV ⟨y',IQ,h2⟩).2.1
        omega
    · show _->¬(lu β id B') id g
      rw[R8,hβ y hid]
      intro h2 h1
      rcases hB g h1 with h3|h3
      · exact h.apart y _ g rU hx (cJ hV rU).1 rfl hid h2 h3
      · have:=(h.kp hV ⟨y,rU,h2⟩).2.1
        omega
    · rw[hβ y hid,hβ y' OJ]
      exact h.apart y y' g rU IQ (cJ hV rU).1 (cJ hV IQ).1 hne
  · obtain⟨k1,k2⟩:=xL hG he
    exact(h.kH e he k1 k2).later e1 hown
end
end Wx

namespace Wx
open Go Go.RowKit
def Pv (l D:Nat) (r:Loop):Rel:=λB w _=>(∀k,B k↔k=l\/k=D)/\w.heap[l]?=some (.loop r)/\w.heap[D]?=some (.deferred (some []))/\D<l
abbrev fe (id l D:Nat) (r:Loop):Vr:=fM id id (Pv l D r)
def K6 (a:Act) (s:Nat):bI:=⟨none,none,s,cI (sl a s)⟩
def kJ (B:Nat->Prop) (w:World):Prop:=∀k,B k->k<w.heap.size/\∀o v,w.cell? ⟨k,o,none⟩=some v->fq v
def iG (V:List Vr) (id n0:Nat):Bool:=V.zipIdx.all λq=>q.1.id != id||q.2==n0
theorem jC {V:List Vr} {id n0:Nat} (h:iG V id n0=true) (y:Vr) (n:Nat) (hn:V[n]?=some y) (hy:y.id=id):n=n0:=by
 unfold iG at h
 rw[List.all_eq_true]at h
 have h1:=h (y,n) (List.mem_iff_getElem?.2 ⟨n,by simp[List.getElem?_zipIdx,hn]⟩)
 simpa [hy] using h1
variable {w:World}
theorem jd {k o:Nat} {ob:Obj} (h:w.heap[k]?=some ob) (hc:ob.isCells=false) (v:Value):w.cell? ⟨k,o,none⟩≠some v:=by
 intro e
 obtain⟨o',h1,h2⟩:=cells_of_cell e
 rw[h]at h1
 injection h1 with h1
 rw[<-h1,hc]at h2
 cases h2
theorem rV {B:Nat->Prop} {l:Nat} (o:Obj) (hl:B l):er B w (w.putObj l o):=
 ⟨rfl,rfl,rfl,by rw[World.putObj_size]; exact Nat.le_refl _,λk _ hn=>World.putObj_heap_other λe=>hn (e▸hl)⟩
section
variable {P:Program} {Q:Exit->Act->World->Prop} {c:eL} {V:List Vr} {G:List bI} {β:Nat->Nat->Prop} {a a':Act} {w w':World}
theorem bO.Sy (h:bO c V [] G none_ β a w) (S:List Nat):bO c V [] (G++S.map (K6 a)) none_ β a w:=by
 refine⟨h.size,h.defers,h.below,h.old,h.var,h.apart,h.al,λe he ho hf=>?_⟩
 rcases List.mem_append.1 he with he|he
 ·exact h.kH e he ho hf
 ·obtain⟨s,_,rfl⟩:=List.mem_map.1 he
  exact aL.always rfl _
theorem bO.xu {G':List bI} (h:bO c V [] G none_ β a w) (hg:∀e,e∈G'->e∈G):bO c V [] G' none_ β a w:=
 ⟨h.size,h.defers,h.below,h.old,h.var,h.apart,h.al,λe he ho hf=>h.kH e (hg e he) ho hf⟩
variable {id n0 l D:Nat} {r:Loop}
theorem bO.Gn (h:bO c V [] G none_ β a w) (hk:V[n0]?=some (fe id l D r)):(∀k,β id k↔k=l\/k=D)/\w.heap[l]?=some (.loop r)/\w.heap[D]?=some (.deferred (some []))/\D<l:=
 ((bh rfl).1 (h.var _ (List.mem_of_getElem? hk) rfl)).2.out
theorem bO.record (r':Loop) (h:bO c V [] G none_ β a w) (hV:dw V=true) (hG:eI G=true) (hk:V[n0]?=some (fe id l D r)) (hu:iG V id n0=true):∃β',bO c (V.set n0 (fe id l D r')) [] G none_ β' a (w.putObj l (.loop r')):=by
 obtain⟨h1,h2,h3,h4⟩:=h.Gn hk
 have hlt:l<w.heap.size:=(Array.getElem?_eq_some_iff.1 h2).1
 have hl2:(w.putObj l (.loop r')).heap[l]?=some (.loop r'):=World.putObj_heap_same hlt
 have OI:(w.putObj l (.loop r')).heap[D]?=some (.deferred (some [])):=(World.putObj_heap_other (by omega)).trans h3
 refine⟨_,h.move (B':=β id) (R':=Pv l D r') hV hG hk (jC hu) (rV _ ((h1 l).2 (.inl rfl))) (λk hk'=>.inl hk') (λk hk'=>?_) ?_⟩
 ·rw[World.putObj_size]
  rcases (h1 k).1 hk' with rfl|rfl
  ·exact⟨hlt,λo v hv=>absurd hv (jd hl2 rfl v)⟩
  ·exact⟨by omega,λo v hv=>absurd hv (jd OI rfl v)⟩
 ·intro w'' he
  have hb:∀k,β id k->w''.heap[k]?=(w.putObj l (.loop r')).heap[k]?:=λk hk'=>he.block k (by rw[World.putObj_size]; rcases (h1 k).1 hk' with rfl|rfl<;>omega) λo ho=>ho.2 hk'
  exact⟨h1,(hb l ((h1 l).2 (.inl rfl))).trans hl2,(hb D ((h1 D).2 (.inr rfl))).trans OI,h4⟩
def My (l:Nat) (P:Program) (body:Code) (Q:Exit->Act->World->Prop) (a:Act) (w:World):Prop:=∃w2,(Instr.beginRound l).run P w=.ok () w2/\body.ww (some l) [] P Q a w2
theorem Hh {body:Code} (hI:Inv c V [] G none_ a w) (n0:Nat) (hr:r.state=.ready) (h:∀w,Inv c (V.set n0 (fe id l D { r with state:=.busy })) [] G none_ a w->body.ww (some l) [] P Q a w)
  (hk:V[n0]?=some (fe id l D r):=by exact rfl) (hV:dw V=true:=by kernel_rfl) (hG:eI G=true:=by kernel_rfl) (hu:iG V id n0=true:=by kernel_rfl):My l P body Q a w:=by
 obtain⟨β,hI⟩:=hI
 exact⟨_,run_beginRound (hI.Gn hk).2.1 hr,h _ (hI.record _ hV hG hk hu)⟩
theorem end_ {S:List Nat} {a0:Act} (jump:Option Code) (hI:Inv c V [] (G++S.map (K6 a0)) none_ a w) (hk:V[n0]?=some (fe id l D r)) (hV:dw V=true) (hG:eI G=true) (hu:iG V id n0=true)
  (WU:∀x,x∈V->x.slot∈S\/sl a x.slot=sl a0 x.slot) (MW:∀e,e∈G->e.slot∈S):
  ∃β' w4,(Instr.endRound l jump).run P w=.ok (.bool jump.isNone) w4/\er c.jt c.w0 w4/\(∀k,kq (V.set n0 (fe id l D { r with state:=if jump.isNone then .ready else .done,pending:=jump })) β' k->mine c k) /\
   kJ (kq (V.set n0 (fe id l D { r with state:=if jump.isNone then .ready else .done,pending:=jump })) β') w4/\aL c.M0 (Told a0 (V.set n0 (fe id l D { r with state:=if jump.isNone then .ready else .done,pending:=jump })) G β') w4:=by
 obtain⟨β,hI⟩:=hI
 have heq:∀s,s∈S->sl a0 s=sl a s:=λs hs=>((hI.kH (K6 a0 s) (List.mem_append_right _ (List.mem_map.2 ⟨s,hs,rfl⟩)) rfl rfl).out:sl a s=sl a0 s).symm
 have DX:=hI.xu (G':=G) λe he=>List.mem_append_left _ he
 obtain⟨β',h4⟩:=DX.record { r with state:=if jump.isNone then .ready else .done,pending:=jump } hV hG hk hu
 have Ui:dw (V.set n0 (fe id l D { r with state:=if jump.isNone then .ready else .done,pending:=jump }))=true:=by
  unfold dw at hV ⊢
  rw[List.all_eq_true]at hV ⊢
  intro x hx
  rcases List.mem_or_eq_of_mem_set hx with hx|rfl
  ·exact hV x hx
  ·rfl
 refine⟨β',_,run_endRound jump (DX.Gn hk).2.1,h4.below,λk hk'=>(h4.kp Ui hk').1,λk hk'=>(h4.kp Ui hk').2,(h4.told Ui hG).imp λw ht=>ht.act (λx hx=>?_) λe he=>heq _ (MW e he)⟩
 rcases List.mem_or_eq_of_mem_set hx with hx|rfl
 ·exact(WU x hx).elim (heq _) λh=>h.symm
 ·exact(WU (fe id l D r) (List.mem_of_getElem? hk)).elim (heq _) λh=>h.symm
end
def yc (P:Program) (l:Nat) (vs:Array Value) (w:World) (R:Bool->World->Prop):Prop:=∀n,YieldAt (Cp none) n P l vs w λe w'=>∃b,e=.returned (.bool b)/\R b w'
def G8 (P:Program) (g:FuncId) (lb:Array Value) (n:Nat) (p q:Nat->Pred) (cap:World->Prop):Prop:=
 ∀(σ:Type) (l:Nat) (M:Nat->Nat->Prop) (Bs:σ->Nat->Prop) (J:Nat->σ->World->Prop) (X:σ->World->Prop) (s0:σ) (w:World),dc M w->(∀k,Bs s0 k->∀o,¬M k o)->kJ (Bs s0) w->aL M (J 0 s0) w->aL (λk o=>M k o\/Bs s0 k) cap w ->
  (∀k s M' w' v0 v1,k<n->dc M' w'->(∀k,Bs s k->∀o,¬M' k o)->kJ (Bs s) w'->aL M' (J k s) w'->aL (λk o=>M' k o\/Bs s k) (λw=>p k w v0) w'->aL (λk o=>M' k o\/Bs s k) (λw=>q k w v1) w' ->
   yc P l #[v0,v1] w' λb w''=>∃s',er (Bs s) w' w''/\(∀k,Bs s' k->Bs s k\/w'.heap.size<=k)/\kJ (Bs s') w''/\aL M' (if b then J (k+1) s' else X s') w'') ->
  Calls P g (#[.func (.yield l) #[] #[]]++lb) w λe w'=>∃v s',e=.returned v/\er (Bs s0) w w'/\(∀k,Bs s' k->Bs s0 k\/w.heap.size<=k)/\kJ (Bs s') w'/\(aL M (J n s') w'\/aL M (X s') w')
def JM (P:Program) (n:Nat) (p q:Nat->Pred) (cap:Array Value->World->Prop):Pred:=λw v=>∃g lb,v=.func (.func g) #[] lb/\aM P g/\G8 P g lb n p q (cap lb)/\cap lb w
end Wx

namespace Wx
open Go Go.RowKit
structure St (τ:Type) where
 B:Nat->Prop
 β:Nat->Nat->Prop
 t:τ
 cd:Code
def NG (N y0 y1:Nat) (S:List Nat):Bool:=S.all λs=>decide (s<N)&&(s != y0&&s != y1)
def wC (N:Nat) (S:List Nat) (V:List Vr):Bool:=dw V&&V.all λx=>S.contains x.slot&&decide (x.id<N)
def PG (S:List Nat) (G:List bI):Bool:=eI G&&G.all λe=>S.contains e.slot
def TF {τ:Type} (c1:eL) (V':τ->List Vr) (VX:Code->τ->List Vr) (G:List bI) (TS:Vr):Exit->Act->World->Prop
 |.normal,a,w=>∃t,Inv c1 (V' t++[TS]) [] G none_ a w
 |.ret,a,w=>∃t,Inv c1 (VX .ret t++[TS]) [] G none_ a w
 |.exit id,a,w=>∃t,Inv c1 (VX (.exit id) t++[TS]) [] G none_ a w
 |_,_,_=>False
variable {α:Type} {l:List α} {x:α}
theorem vF {y:α}:(l++[x]).set l.length y=l++[y]:=by simp
theorem mP:(l++[x])[l.length]?=some x:=by simp
section
variable {P:Program} {Q:Exit->Act->World->Prop} {c:eL} {V:List Vr} {G:List bI} {β:Nat->Nat->Prop} {a a':Act} {w w':World}{N:Nat} {S:List Nat}
theorem jA {V:List Vr} (h:wC N S V=true) (l D:Nat) (r:Loop):dw (V++[fe N l D r])=true/\iG (V++[fe N l D r]) N V.length=true:=by
 unfold wC at h
 simp only[Bool.and_eq_true,List.all_eq_true]at h
 refine⟨?_,?_⟩
 ·have h1:=h.1
  unfold dw at h1 ⊢
  rw[List.all_append,h1]
  rfl
 ·unfold iG
  rw[List.all_eq_true]
  rintro⟨y,n⟩ hy
  have hy:=List.mem_iff_getElem?.1 hy
  obtain⟨m,hm⟩:=hy
  simp only[List.getElem?_zipIdx]at hm
  cases hg:(V++[fe N l D r])[m]? with
  |none=>rw[hg]at hm; cases hm
  |some z=>
   rw[hg]at hm
   simp only[Option.map_some,Option.some.injEq,Prod.mk.injEq]at hm
   obtain⟨rfl,rfl⟩:=hm
   rcases Nat.lt_or_ge m V.length with hlt|hge
   ·rw[List.getElem?_append_left hlt]at hg
    have h2:=(h.2 z (List.mem_of_getElem? hg)).2
    simp at h2
    simp; omega
   ·rw[List.getElem?_append_right hge]at hg
    have:m<V.length+1:=by
     rcases Nat.lt_or_ge m (V.length+1)with h3|h3
     ·exact h3
     ·rw[List.getElem?_eq_none (by simp; omega)]at hg; cases hg
    simp; omega
theorem bO.NU {r:Loop} (h:bO c V [] G none_ β a w) (hV:wC N S V=true) (hG:eI G=true):
  ∃β',bO c (V++[fe N (w.heap.size+1) w.heap.size r]) [] G none_ β' a ((w.alloc (.deferred (some []))).alloc (.loop r)):=by
 have hv:=hV
 unfold wC at hV
 simp only[Bool.and_eq_true,List.all_eq_true]at hV
 have hid:∀y,y∈V->y.id≠N:=λy hy e=>by have:=(hV.2 y hy).2; simp at this; omega
 let β1:=lu β N λ_=>False
 have e1:∀y,y∈V->β1 y.id=β y.id:=λy hy=>zm (hid y hy)
 have eN:∀k,¬β1 N k:=λk h=>by rw[show β1 N=λ_=>False from rG]at h; exact h
 have hmem:∀y,y∈V++[fM N N λB _ _=>∀k,¬B k]->y∈V\/y=fM N N λB _ _=>∀k,¬B k:=λy hy=>by simpa using hy
 have hown:∀k o,own c (V++[fM N N λB _ _=>∀k,¬B k]) none_ β1 k o->own c V none_ β k o:=by
  rintro k o (h1|⟨y,hy,h1,h2,h3⟩)
  ·exact .inl h1
  ·rcases hmem y hy with hy|rfl
   ·rw[e1 y hy]at h2
    exact .inr ⟨y,hy,h1,h2,h3⟩
   ·exact absurd h2 (eN k)
 have h1:bO c (V++[fM N N λB _ _=>∀k,¬B k]) [] G none_ β1 a w:=by
  refine⟨h.size,h.defers,h.below,h.old,λy hy hl=>?_,λy y' g hy hy' hl hl' hne=>?_,(λp hp=>by cases hp),λe he ho hf=>(h.kH e he ho hf).sub λk o _ hk=>hown k o hk⟩
  ·rcases hmem y hy with hy|rfl
   ·exact(h.var y hy hl).keep rfl (e1 y hy) (λ_ _=>rfl) (Nat.le_refl _) (λ_ hF=>hF.sub λk o _ hk=>hown k o hk) (λ_ hF=>hF.sub λk o _ hk=>⟨hown k o hk.1,hk.2⟩) rfl
   ·exact(bh rfl).2 ⟨λk hk=>absurd hk (eN k),λ_ _=>eN⟩
  ·rcases hmem y hy with hy|rfl<;>rcases hmem y' hy' with hy'|rfl
   ·rw[e1 y hy,e1 y' hy']
    exact h.apart y y' g hy hy' hl hl' hne
   ·exactλ_=>eN g
   ·exactλh2=>absurd h2 (eN g)
   ·exact absurd rfl hne
 obtain⟨hp,hu⟩:=jA hv (w.heap.size+1) w.heap.size r
 have hp1:dw (V++[fM N N λB _ _=>∀k,¬B k])=true:=by
  have h2:=hV.1
  unfold dw at h2 ⊢
  rw[List.all_append,h2]
  rfl
 have Vo:∀(y:Vr) (n:Nat),(V++[fM N N λB _ _=>∀k,¬B k])[n]?=some y->y.id=N->n=V.length:=by
  intro y n hn hy
  rcases Nat.lt_or_ge n V.length with hlt|hge
  ·rw[List.getElem?_append_left hlt]at hn
   exact absurd hy (hid y (List.mem_of_getElem? hn))
  ·have:=(List.getElem?_eq_some_iff.1 hn).1
   simp at this
   omega
 have hb:Below w.heap.size w ((w.alloc (.deferred (some []))).alloc (.loop r)):=((Below.refl _ w).alloc (Nat.le_refl _) _).alloc (by simp) _
 have hsz:((w.alloc (.deferred (some []))).alloc (.loop r)).heap.size=w.heap.size+2:=by simp
 have hl:((w.alloc (.deferred (some []))).alloc (.loop r)).heap[w.heap.size+1]?=some (.loop r):=by
  have:=World.alloc_heap_new (w.alloc (.deferred (some []))) (.loop r); rwa [World.size_alloc]at this
 have hd:((w.alloc (.deferred (some []))).alloc (.loop r)).heap[w.heap.size]?=some (.deferred (some [])):=
  (Below.heap_alloc _ _ _ (by simp)).trans (World.alloc_heap_new w _)
 refine⟨_,by
  have:=h1.move (n0:=V.length) (B':=λk=>k=w.heap.size+1\/k=w.heap.size) (R':=Pv (w.heap.size+1) w.heap.size r) hp1 hG mP Vo (er.dJ hb) (λk hk=>.inr (by omega)) (λk hk=>?_) ?_
  ·rw[vF]at this
   exact this
  ·rcases hk with rfl|rfl
   ·exact⟨by omega,λo v hv=>absurd hv (jd hl rfl v)⟩
   ·exact⟨by omega,λo v hv=>absurd hv (jd hd rfl v)⟩
  ·intro w'' he
   have hn:∀k o,w.heap.size<=k->¬minus (own c (V++[fM N N λB _ _=>∀k,¬B k]) none_ β1) (β1 N) k o:=λk o hk ho=>by
    rcases hown k o ho.1 with h5|⟨y,hy,h5,h6,_⟩
    ·have h7:=(h.old k o h5).1.1
     have h8:=h.below.size
     omega
    ·have:=(h.var y hy h5).blk h6
     omega
   exact⟨λ_=>Iff.rfl,(he.block _ (by omega) λo=>hn _ o (by omega)).trans hl,(he.block _ (by omega) λo=>hn _ o (by omega)).trans hd,by omega⟩⟩
theorem FM {A:List Al} {L:Nat->Bool} {B:Nat->Prop} (h:bO c V A G L β a w) (hle:er B w w') (hm:∀k,B k->mine c k):er c.jt c.w0 w'/\∀k o,c.M0 k o->(k<c.w0.heap.size/\¬c.jt k)/\∀v,w'.cell? ⟨k,o,none⟩=some v->fq v:=by
 refine⟨⟨hle.os.trans h.below.os,hle.tape.trans h.below.tape,hle.output.trans h.below.output,Nat.le_trans h.below.size hle.size,λk hk hn=>(hle.block k (Nat.lt_of_lt_of_le hk h.below.size) λhb=>(hm k hb).elim (λh3=>by omega) hn).trans (h.below.block k hk hn)⟩,λk o h0=>⟨(h.old k o h0).1,λv hv=>(h.old k o h0).2 v ?_⟩⟩
 rw[World.cell?_of_block (w:=w) (a:=⟨k,o,none⟩) (hle.block k (Nat.lt_of_lt_of_le (h.old k o h0).1.1 h.below.size) λhb=>ju h (hm k hb) h0)]at hv
 exact hv
theorem aL.eqv {M M':Nat->Nat->Prop} {F:World->Prop} (h:aL M F w) (hm:∀k o,M' k o->M k o):aL M' F w:=h.sub λk o _ hk=>hm k o hk
abbrev coll (D:Nat):Deferred:={ target:=.collected D,args:=#[] }
theorem BL {τ:Type} {s y0 y1 n:Nat} {p q:Nat->Pred} {cap:Array Value->World->Prop} {assign body:Code} (Vk:Nat->τ->List Vr) (VX:Code->τ->List Vr) (G0:List bI) (S:List Nat) (t0:τ)
  (hI:Inv c (Vk 0 t0) [] G0 none_ a w) (hs:iW s G0=some (JM P n p q cap)) (P5:∀k t,wC c.N S (Vk k t)=true) (Uj:∀cd t,wC c.N S (VX cd t)=true) (MW:PG S G0=true) (Ue:NG c.N y0 y1 S=true) (hy:decide (y0<c.N)&&(decide (y1<c.N)&&y0 != y1)=true)
  (round:∀k t w0 M1 B1 a1 w1 D l r,k<n->r.state=.ready->Inv ⟨c.N,w0,M1,B1⟩ (Vk k t++[fe c.N l D r]) [] (⟨none,none,y1,q k⟩::⟨none,none,y0,p k⟩::(G0++S.map (K6 a))) none_ a1 w1 ->
   assign.ww (some l) [] P (Exit.then (My l P body (TF ⟨c.N,w0,M1,B1⟩ (Vk (k+1)) VX (G0++S.map (K6 a)) (fe c.N l D { r with state:=.busy }))) λ_ _ _=>False) a1 w1)
  (done:∀t w D l r,Inv c (Vk n t++[fe c.N l D r]) [] G0 none_ a w->Q .normal (ot [coll D] a) w)
  (stop:∀cd t w D l r,Inv c (VX cd t++[fe c.N l D r]) [] G0 none_ a w->cd.ww none [] P Q (ot [coll D] a) w):
  (Code.rangeFunc (.tmp s) #[y0,y1] assign body).ww none [] P Q a w:=by
 intro n0
 obtain⟨β0,h0⟩:=hI
 have S4:eI G0=true:=by unfold PG at MW; simp only[Bool.and_eq_true]at MW; exact MW.1
 have WK:∀e,e∈G0->e.slot∈S:=by
  unfold PG at MW
  simp only[Bool.and_eq_true,List.all_eq_true,List.contains_iff_mem]at MW
  exact MW.2
 have WV:∀{V:List Vr},wC c.N S V=true->(∀x,x∈V->x.slot∈S):=λhV=>by
  unfold wC at hV
  simp only[Bool.and_eq_true,List.all_eq_true,List.contains_iff_mem]at hV
  exactλx hx=>(hV.2 x hx).1
 have Uf:∀s,s∈S->s<c.N/\s≠y0/\s≠y1:=by
  unfold NG at Ue
  simp only[Bool.and_eq_true,List.all_eq_true,decide_eq_true_eq,bne_iff_ne]at Ue
  exact Ue
 simp only[Bool.and_eq_true,decide_eq_true_eq,bne_iff_ne]at hy
 obtain⟨hy0,qP,Zw⟩:=hy
 obtain⟨k0,BO⟩:=gj hs
 have RR:JM P n p q cap w (sl a s):=(h0.kH _ (List.mem_of_getElem? BO) rfl rfl).out
 obtain⟨g,lb,hv,hce,hseq,_⟩:=RR
 refine wpIn_rangeFunc λfn hfn=>?_
 obtain⟨rec,yO⟩:∃rec:LoopState->Option Code->Loop,rec=λst pe=>{ state:=st,pending:=pe,fn,tmps:=a.tmps,params:=#[y0,y1],assign,body,defers:=w.heap.size }:=⟨_,rfl⟩
 obtain⟨β1,h1⟩:=h0.NU (r:=rec .ready none) (P5 0 t0) S4
 obtain⟨W1,hW1⟩:∃W1,(w.alloc (.deferred (some []))).alloc (.loop (rec .ready none))=W1:=⟨_,rfl⟩
 rw[hW1]at h1
 obtain⟨l,hl⟩:∃l,l=w.heap.size+1:=⟨_,rfl⟩
 obtain⟨D,hD⟩:∃D,D=w.heap.size:=⟨_,rfl⟩
 rw[<-hl,<-hD]at h1
 have hp1:=(jA (P5 0 t0) l D (rec .ready none)).1
 refine⟨l,[coll D],W1,{ target:=.fn (.func g) lb,args:=#[.func (.yield l) #[] #[]] },W1,g,#[.func (.yield l) #[] #[]]++lb,W1,?_,?_,λ_ _=>trivial,?_,λh=>(by cases h),?_⟩
 ·rw[<-hW1,yO,hl,hD]; exact run_enterLoop_outer _ _ _ _ _
 ·have hg:(ot [] a).eval (.tmp s)=.func (.func g) #[] lb:=hv
  simp only[resolve,hg]
  simp[go_sem]
 ·simp[invoke,go_sem,hce _ _]
 let J:Nat->St τ->World->Prop:=λk s w=>s.B=kq (Vk k s.t++[fe c.N l D (rec .ready none)]) s.β/\Told a (Vk k s.t++[fe c.N l D (rec .ready none)]) G0 s.β w
 let X:St τ->World->Prop:=λs w=>s.B=kq (VX s.cd s.t++[fe c.N l D (rec .done (some s.cd))]) s.β/\Told a (VX s.cd s.t++[fe c.N l D (rec .done (some s.cd))]) G0 s.β w
 let s0:St τ:=⟨kq (Vk 0 t0++[fe c.N l D (rec .ready none)]) β1,β1,t0,.skip⟩
 have hm0:∀k,s0.B k->mine c k:=λk hk=>(h1.kp hp1 hk).1
 refine wN (Calls.mono (hseq (St τ) l c.M0 St.B J X s0 W1 (λk o hk=>⟨Nat.lt_of_lt_of_le (h1.old k o hk).1.1 h1.below.size,(h1.old k o hk).2⟩) (λk hk o=>ju h1 (hm0 k hk)) (λk hk=>(h1.kp hp1 hk).2) ((h1.told hp1 S4).imp λ_ h=>⟨rfl,h⟩) ?_ ?_) ?_)
 ·intro w' he
  have hb:aL (λk o=>c.M0 k o\/s0.B k) (λw=>JM P n p q cap w (sl a s)) W1:=(h1.kH _ (List.mem_of_getElem? BO) rfl rfl).sub λk o _ hk=>hk.elim .inl λ⟨x,hx,cT⟩=>.inr ⟨x,hx,(cJ hp1 hx).1,cT,by rw[(cJ hp1 hx).2.1]; exact Nat.zero_le _⟩
  obtain⟨g',lb',e',_,_,hc'⟩:=hb w' he
  have e2:Value.func (.func g) #[] lb=Value.func (.func g') #[] lb':=hv.symm.trans e'
  injection e2 with _ _ e3
  rw[e3]; exact hc'
 ·-- one round
  intro k st M' w' v0 v1 hk hM UI hno hJ hp hq m
  obtain⟨hB,hT0⟩:=hJ.out
  have hT:aL M' (Told a (Vk k st.t++[fe c.N l D (rec .ready none)]) G0 st.β) w':=hJ.imp λ_ h=>h.2
  have hpk:=jA (P5 k st.t) l D (rec .ready none)
  have i1:bO ⟨c.N,w',M',st.B⟩ (Vk k st.t++[fe c.N l D (rec .ready none)]) [] G0 none_ st.β a w':=Told.inv (c:=⟨c.N,w',M',st.B⟩) hT hpk.1 h0.size h0.defers (λk hk=>.inr (by show st.B k; rw[hB]; exact hk)) (er.refl _ _) λk o hk=>⟨⟨(hM k o hk).1,λhb=>UI k hb o hk⟩,(hM k o hk).2⟩
  have hown:∀k' o,own ⟨c.N,w',M',st.B⟩ (Vk k st.t++[fe c.N l D (rec .ready none)]) none_ st.β k' o->M' k' o\/st.B k':=λk' o h=>h.elim .inl λ⟨x,hx,_,hb,_⟩=>.inr (by rw[hB]; exact⟨x,hx,hb⟩)
  have nV:∀y,y<c.N->(y=y0\/y=y1)->∀x,x∈Vk k st.t++[fe c.N l D (rec .ready none)]->x.slot≠y:=λy hyN hy x hx e=>by
   rcases List.mem_append.1 hx with hx|hx
   ·have:=Uf _ (WV (P5 k st.t) x hx)
    rcases hy with rfl|rfl<;>simp_all
   ·rw[List.mem_singleton]at hx
    subst hx
    have e:c.N=y:=e
    omega
  have nG:∀y,(y=y0\/y=y1)->∀e,e∈G0++S.map (K6 a)->e.slot≠y:=λy hy e he=>by
   rcases List.mem_append.1 he with he|he
   ·have:=Uf _ (WK e he)
    rcases hy with rfl|rfl<;>simp_all
   ·obtain⟨s',hs',rfl⟩:=List.mem_map.1 he
    have:=Uf _ hs'
    show s'≠y
    rcases hy with rfl|rfl<;>simp_all
  have i2:=(i1.Sy S).rD (d:=y0) (p:=p k) (v:=v0) hy0 (nV y0 hy0 (.inl rfl)) (nG y0 (.inl rfl)) (hp.eqv hown)
  have i3:=i2.rD (d:=y1) (p:=q k) (v:=v1) qP (nV y1 qP (.inr rfl)) (λe he=>by
   rcases List.mem_cons.1 he with rfl|he
   ·exact Zw
   ·exact nG y1 (.inr rfl) e he) (hq.eqv hown)
  have hrd:=(i1.Gn (n0:=(Vk k st.t).length) mP).2.1
  have R6:=run_yield (P:=P) (args:=#[v0,v1]) hrd (by rw[yO]; rfl)
  rw[yO]at R6
  refine⟨fn,_,assign,body,R6,roundIn_of_wpIn (F:=Cp none) trivial ?_⟩
  have hr:=round k st.t w' M' st.B _ w' D l (rec .ready none) hk (by rw[yO]) ⟨_,i3⟩ m
  have ea:ot [] ((a.put (some y0) v0).put (some y1) v1)={ tmps:=(#[y0,y1].zip #[v0,v1]).foldl (λt (x:Nat×Value)=>t.setIfInBounds x.1 x.2) a.tmps,defers:=[] }:=by
   have:=h0.defers
   cases a
   simp only at this
   subst this
   simp[ot,Act.put]
  rw[ea]at hr
  refine wpIn_mono hr ?_
  rintro e a2 w2 ⟨a3,rfl,h2⟩
  cases e with
  |normal=>
   obtain⟨w3,hb3,hbody⟩:=h2
   refine⟨w3,hb3,wpIn_mono (hbody m) ?_⟩
   have fin:∀(V':List Vr) (jump:Option Code) (a4:Act) (w4:World),wC c.N S V'=true->Inv ⟨c.N,w',M',st.B⟩ (V'++[fe c.N l D { rec .ready none with state:=.busy }]) [] (G0++S.map (K6 a)) none_ a4 w4 ->
     ∃β' w5,(Instr.endRound l jump).run P w4=.ok (.bool jump.isNone) w5/\er st.B w' w5/\(∀k,kq (V'++[fe c.N l D (rec (if jump.isNone then .ready else .done) jump)]) β' k->st.B k\/w'.heap.size<=k) /\
      kJ (kq (V'++[fe c.N l D (rec (if jump.isNone then .ready else .done) jump)]) β') w5/\aL M' (Told a (V'++[fe c.N l D (rec (if jump.isNone then .ready else .done) jump)]) G0 β') w5:=by
    intro V' jump a4 w4 SZ KA
    have Xe:=jA SZ l D { rec .ready none with state:=.busy }
    obtain⟨β',w5,k1,k2,k3,k4,k5⟩:=end_ jump KA mP Xe.1 S4 Xe.2 (λx hx=>by
     rcases List.mem_append.1 hx with hx|hx
     ·exact .inl (WV SZ x hx)
     ·rw[List.mem_singleton]at hx
      subst hx
      obtain⟨β4,KA⟩:=KA
      have s4:a4.tmps.size=c.N:=KA.size
      have s5:a.tmps.size=c.N:=h0.size
      right
      show sl a4 c.N=sl a c.N
      unfold sl
      simp[Array.getD,s4,s5]) WK
    rw[vF]at k3 k4 k5
    rw[yO]at *
    exact⟨β',w5,k1,k2,λk hk=>(k3 k hk).elim .inr .inl,k4,k5⟩
   rintro e a5 w4 ⟨a4,rfl,h4⟩
   cases e with
   |normal=>
    obtain⟨t',KA⟩:=h4
    obtain⟨β',w5,k1,k2,k3,k4,k5⟩:=fin _ none a4 w4 (P5 (k+1) t') KA
    exact⟨_,w5,k1,true,rfl,⟨_,β',t',.skip⟩,k2,k3,k4,k5.imp λ_ h=>⟨rfl,h⟩⟩
   |ret=>
    obtain⟨t',KA⟩:=h4
    obtain⟨β',w5,k1,k2,k3,k4,k5⟩:=fin _ (some .ret) a4 w4 (Uj .ret t') KA
    exact⟨_,w5,k1,false,rfl,⟨_,β',t',.ret⟩,k2,k3,k4,k5.imp λ_ h=>⟨rfl,h⟩⟩
   |exit id=>
    obtain⟨t',KA⟩:=h4
    obtain⟨β',w5,k1,k2,k3,k4,k5⟩:=fin _ (some (.exit id)) a4 w4 (Uj (.exit id) t') KA
    exact⟨_,w5,k1,false,rfl,⟨_,β',t',.exit id⟩,k2,k3,k4,k5.imp λ_ h=>⟨rfl,h⟩⟩
   |goto t=>exact h4.elim
   |panic ch=>exact h4.elim
   |outgrown=>exact h4.elim
  |exit id=>exact h2.elim
  |goto t=>exact h2.elim
  |ret=>exact h2.elim
  |panic ch=>exact h2.elim
  |outgrown=>exact h2.elim
 ·-- behind the iterator
  rintro e w3 ⟨v,s',rfl,hle,hnew,hno,Yu⟩
  obtain⟨hb,ho⟩:=FM h1 hle hm0
  have hm:∀k,s'.B k->mine c k:=λk hk=>(hnew k hk).elim (hm0 k) λh=>.inl (Nat.le_trans h1.below.size h)
  have back:∀(V':List Vr) (r:Loop),wC c.N S V'=true->s'.B=kq (V'++[fe c.N l D r]) s'.β->aL c.M0 (Told a (V'++[fe c.N l D r]) G0 s'.β) w3->r.state≠.busy ->
    ∃w4,(Instr.endLoop l).run P w3=.ok r.pending w4/\Inv c (V'++[fe c.N l D { r with state:=.exhausted }]) [] G0 none_ a w4:=by
   intro V' r SZ hB hT hr
   have hp:=jA SZ l D r
   have i3:bO c (V'++[fe c.N l D r]) [] G0 none_ s'.β a w3:=Told.inv hT hp.1 h0.size h0.defers (λk hk=>hm k (by rw[hB]; exact hk)) hb ho
   obtain⟨β4,i4⟩:=i3.record { r with state:=.exhausted } hp.1 S4 mP hp.2
   rw[vF]at i4
   exact⟨_,run_endLoop (i3.Gn (n0:=V'.length) mP).2.1 hr,β4,i4⟩
  rcases Yu with hJ|hX
  ·obtain⟨w4,k1,k2⟩:=back _ _ (P5 n s'.t) hJ.out.1 (hJ.imp λ_ h=>h.2) (by rw[yO]; simp)
   refine⟨_,w4,k1,?_⟩
   rw[yO]
   exact⟨_,rfl,done _ _ _ _ _ k2⟩
  ·obtain⟨w4,k1,k2⟩:=back _ _ (Uj s'.cd s'.t) hX.out.1 (hX.imp λ_ h=>h.2) (by rw[yO]; simp)
   refine⟨_,w4,k1,?_⟩
   rw[yO]
   exact stop _ _ _ _ _ _ k2 n0
end
end Wx
