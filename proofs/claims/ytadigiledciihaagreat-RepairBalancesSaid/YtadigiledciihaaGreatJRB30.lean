import Derived.Test.YtadigiledciihaaGreatJRB23
import Derived.RangeFuncNested
namespace Wx
open Go Go.RowKit
section
variable {M M':Nat->Nat->Prop} {B:Nat->Prop} {F:World->Prop} {w w':World}
abbrev Nj (B:Nat->Prop):Nat->Nat->Prop:=λk _=>B k
theorem aQ.later (h:aQ M F w) (he:Ext M w w') (hm:∀k o,k<w.heap.size->M' k o->M k o):aQ M' F w':=λw'' h'=>h w''
  ⟨Nat.le_trans he.size h'.size,λk hk hn=>(h'.block k (Nat.lt_of_lt_of_le hk he.size) λo ho=>hn o (hm k o hk ho)).trans (he.block k hk hn),
   λk o v hn hc=>h'.cell k o v (λho=>hn (hm k o (World.block_lt_of_cell? w _ hc) ho)) (he.cell k o v hn hc)⟩
theorem aQ.join (h:aQ M (aQ (Nj B) F) w) (hB:∀k,B k->k<w.heap.size):aQ (λk o=>M k o\/B k) F w:=by
  intro w'' he
  classical
  let w':World:={ w'' with heap:=w''.heap.mapIdx λi o=>if B i then(w.heap[i]?).getD o else o }
  have hs:w'.heap.size=w''.heap.size:=by simp[w']
  have hg:∀k,w'.heap[k]?=if B k then w.heap[k]? else w''.heap[k]?:=by
    intro k
    show(w''.heap.mapIdx _)[k]?=_
    rw[Array.getElem?_mapIdx]
    by_cases hb:B k
    · have h1:=hB k hb
      have h2:k<w''.heap.size:=Nat.lt_of_lt_of_le h1 he.size
      simp[h1,h2,hb]
    · rw[if_neg hb]
      cases w''.heap[k]?<;>simp[hb]
  refine h w' ⟨by rw[hs]; exact he.size,?_,?_⟩ w'' ⟨by rw[hs]; exact Nat.le_refl _,?_,?_⟩
  · intro k hk hn
    rw[hg]
    by_cases hb:B k
    · rw[if_pos hb]
    · rw[if_neg hb]; exact he.block k hk λo ho=>ho.elim (hn o) hb
  · intro k o v hn hc
    by_cases hb:B k
    · rw[World.cell?_of_block (w:=w) (a:=⟨k,o,none⟩) (by rw[hg,if_pos hb])]; exact hc
    · rw[World.cell?_of_block (w:=w'') (a:=⟨k,o,none⟩) (by rw[hg,if_neg hb])]; exact he.cell k o v (λho=>ho.elim hn hb) hc
  · intro k _ hn
    rw[hg,if_neg (hn 0)]
  · intro k o v hn hc
    rw[World.cell?_of_block (w:=w') (a:=⟨k,o,none⟩) (by rw[hg,if_neg hn])]
    exact hc
end
def Kd.AI:Kd->Bool
  |.grow _ _=>true
  |_=>false
def cq (V:List Vr):Bool:=V.all λx=>x.born.isNone&&(x.dead.isNone&&!x.kd.AI)
def dn (G:List aX):Bool:=G.all λe=>e.tag.isNone&&e.till.isNone
theorem bM {V:List Vr} (h:cq V=true) {x:Vr} (hx:x∈V):live none_ x=true/\x.lo=0/\∀m sz,x.kd≠.grow m sz:=by
  unfold cq at h
  rw[List.all_eq_true]at h
  have h1:=h x hx
  simp only[Bool.and_eq_true,Option.isNone_iff_eq_none]at h1
  refine⟨by unfold live; rw[h1.1,h1.2.1]; rfl,?_,λm sz e=>by rw[e]at h1; simp[Kd.AI]at h1⟩
  unfold Vr.lo
  cases hk:x.kd with
  |grow m sz=>rw[hk]at h1; simp[Kd.AI]at h1
  |_=>rfl
theorem vB {G:List aX} (h:dn G=true) {e:aX} (he:e∈G):on none_ e.tag=true/\off none_ e.till=true:=by
  unfold dn at h
  rw[List.all_eq_true]at h
  have h1:=h e he
  simp only[Bool.and_eq_true,Option.isNone_iff_eq_none]at h1
  rw[h1.1,h1.2]
  exact⟨rfl,rfl⟩
def jb (V:List Vr) (β:Nat->Nat->Prop) (k:Nat):Prop:=∃x,x∈V/\β x.id k
def NJ (w:World):dg:=⟨0,w,λ_ _=>False,λ_=>True⟩
structure Told (a:Act) (V:List Vr) (G:List aX) (β:Nat->Nat->Prop) (w:World):Prop where
  var:∀x,x∈V->kR (Nj (jb V β)) (NJ w) none_ β a w x
  apart:∀x y g,x∈V->y∈V->x.id≠y.id->β x.id g->¬β y.id g
  jl:∀e,e∈G->aQ (Nj (jb V β)) (λw=>e.p w (sl a e.slot)) w
section
variable {c c':dg} {V:List Vr} {A:List Al} {G:List aX} {L:Nat->Bool} {β:Nat->Nat->Prop} {a a':Act} {w w':World} {M:Nat->Nat->Prop}
theorem kR.cfg {x:Vr} (h:kR M c L β a w x) (hm:∀k,β x.id k->mine c' k):kR M c' L β a w x:=by
  rcases iv x.kd with hk|⟨m,sz,hk⟩|hk
  · obtain⟨g,e,h1,h2⟩:=(bH hk).1 h
    exact(bH hk).2 ⟨g,e,h1,hm g ((e g).2 rfl),h2.held⟩
  · rcases (bw hk).1 h with h1|⟨b,cap,cur,e,h1,h2,h3⟩
    · exact(bw hk).2 (.inl h1)
    · exact(bw hk).2 (.inr ⟨b,cap,cur,e,h1,hm b ((e b).2 rfl),h3⟩)
  · obtain⟨h1,h2⟩:=(aJ hk).1 h
    exact(aJ hk).2 ⟨λk hk'=>⟨hm k hk',(h1 k hk').2⟩,h2⟩
theorem aY.ja (h:aY c V A G none_ β a w) (hV:cq V=true) {k:Nat} (hk:jb V β k):mine c k/\k<w.heap.size/\∀o v,w.cell? ⟨k,o,none⟩=some v->gR v:=by
  obtain⟨x,hx,hb⟩:=hk
  exact(h.var x hx (bM hV hx).1).blk hb
theorem iw (h:aY c V A G L β a w) {k o:Nat} (hm:mine c k):¬c.M0 k o:=λh0=>by
  have h1:=(h.old k o h0).1
  exact hm.elim (λh2=>by omega) h1.2
theorem aY.told (h:aY c V A G none_ β a w) (hV:cq V=true) (hG:dn G=true):aQ c.M0 (Told a V G β) w:=by
  intro w1 he
  have ho:∀k o,jb V β k->own c V none_ β k o:=λk o ⟨x,hx,hb⟩=>.inr ⟨x,hx,(bM hV hx).1,hb,by rw[(bM hV hx).2.1]; exact Nat.zero_le _⟩
  have hn:∀k,jb V β k->∀o,¬c.M0 k o:=λk hk o=>iw h (h.ja hV hk).1
  have e1:Ext (own c V none_ β) w w1:=he.mono λk o _ hk=>.inl hk
  refine⟨λx hx=>?_,λx y g hx hy hne=>h.apart x y g hx hy (bM hV hx).1 (bM hV hy).1 hne,λe he'=>?_⟩
  · have hv:=(h.var x hx (bM hV hx).1).cfg (c':=NJ w1) λ_ _=>.inr trivial
    refine hv.keep rfl rfl (λg hg=>he.block g (h.ja hV ⟨x,hx,hg⟩).2.1 (hn g ⟨x,hx,hg⟩)) he.size (λF hF=>(hF.ext e1).sub λk o _ hk=>ho k o hk) (λF hF=>?_) rfl
    have e2:Ext (minus (own c V none_ β) (β x.id)) w w1:=he.mono λk o _ hk=>⟨.inl hk,λhb=>hn k ⟨x,hx,hb⟩ o hk⟩
    exact(hF.ext e2).sub λk o _ hk=>⟨ho k o hk.1,hk.2⟩
  · obtain⟨h1,h2⟩:=vB hG he'
    exact((h.jl e he' h1 h2).ext e1).sub λk o _ hk=>ho k o hk
theorem Told.act (h:Told a V G β w) (hV:∀x,x∈V->sl a' x.slot=sl a x.slot) (hG:∀e,e∈G->sl a' e.slot=sl a e.slot):Told a' V G β w:=
  ⟨λx hx=>(h.var x hx).keep (hV x hx) rfl (λ_ _=>rfl) (Nat.le_refl _) (λ_ h=>h) (λ_ h=>h) rfl,h.apart,λe he=>by rw[hG e he]; exact h.jl e he⟩
theorem Told.inv (h:aQ c.M0 (Told a V G β) w) (hV:cq V=true) (hs:a.tmps.size=c.N) (hd:a.defers=[]) (hm:∀k,jb V β k->mine c k)
    (LV:de c.gM c.w0 w) (hold:∀k o,c.M0 k o->(k<c.w0.heap.size/\¬c.gM k)/\∀v,w.cell? ⟨k,o,none⟩=some v->gR v):aY c V [] G none_ β a w:=by
  have h0:=h.out
  have hn:∀k,jb V β k->∀o,¬c.M0 k o:=λk hk o h0=>(hm k hk).elim (λh2=>by have:=(hold k o h0).1.1; omega) (hold k o h0).1.2
  have hz:∀k,jb V β k->k<w.heap.size:=λk ⟨x,hx,hb⟩=>((h0.var x hx).blk hb).2.1
  have hown:∀k o,own c V none_ β k o->c.M0 k o\/jb V β k:=λk o h=>h.elim .inl λ⟨x,hx,_,hb,_⟩=>.inr ⟨x,hx,hb⟩
  refine⟨hs,hd,LV,hold,λx hx _=>?_,λx y g hx hy _ _ hne=>h0.apart x y g hx hy hne,(λp hp=>by cases hp),λe he _ _=>?_⟩
  · rcases iv x.kd with hk|⟨m,sz,hk⟩|hk
    · obtain⟨g,e,h1,h2⟩:=(bH hk).1 (h0.var x hx)
      obtain⟨cs,h3,h4,h5,_⟩:=h2.held
      have hb:jb V β g:=⟨x,hx,(e g).2 rfl⟩
      refine(bH hk).2 ⟨g,e,h1,hm g hb,cs,h3,h4,h5,?_⟩
      have key:aQ c.M0 (aQ (Nj (jb V β)) λw=>cont none_ x.c0 x.st (·=g) w (ak x.agg cs)) w:=by
        intro w1 he
        obtain⟨g1,e1,_,k2⟩:=(bH hk).1 ((h w1 he).var x hx)
        obtain⟨cs1,k3,_,_,k6⟩:=k2.held
        have eg:g1=g:=((e1 g).1 ((e g).2 rfl)).symm
        subst eg
        rw[he.block g1 (hz g1 hb) (hn g1 hb),h3]at k3
        have ec:cs=cs1:=by simpa using k3
        subst ec
        exact k6
      exact(key.join hz).sub λk o _ hk=>hown k o hk
    · exact absurd hk ((bM hV hx).2.2 m sz)
    · obtain⟨h1,_⟩:=(aJ hk).1 (h0.var x hx)
      refine(aJ hk).2 ⟨λk hk'=>⟨hm k ⟨x,hx,hk'⟩,(h1 k hk').2⟩,?_⟩
      have key:aQ c.M0 (aQ (Nj λk=>jb V β k/\¬β x.id k) λw=>cont none_ x.c0 x.st (β x.id) w (sl a x.slot)) w:=λw1 he=>((aJ hk).1 ((h w1 he).var x hx)).2
      exact(key.join λk hk=>hz k hk.1).sub λk o _ hk=>(hown k o hk.1).elim .inl λh=>.inr ⟨h,hk.2⟩
  · have key:aQ c.M0 (aQ (Nj (jb V β)) λw=>e.p w (sl a e.slot)) w:=λw1 hw=>(h w1 hw).jl e he
    exact(key.join hz).sub λk o _ hk=>hown k o hk
theorem aY.pL {d:Nat} {p:Pred} {v:Value} (h:aY c V [] G none_ β a w) (hd:d<c.N) (hV:∀x,x∈V->x.slot≠d) (hG:∀e,e∈G->e.slot≠d) (hp:aQ (own c V none_ β) (λw=>p w v) w):aY c V [] (⟨none,none,d,p⟩::G) none_ β (a.put (some d) v) w:=by
  have sd:∀s,s≠d->sl (a.put (some d) v) s=sl a s:=λs hs=>cw λe=>hs (Option.some.inj e).symm
  refine⟨by rw[jD]; exact h.size,by rw[put_defers]; exact h.defers,h.below,h.old,λx hx hl=>(h.var x hx hl).keep (sd _ (hV x hx)) rfl (λ_ _=>rfl) (Nat.le_refl _) (λ_ h=>h) (λ_ h=>h) rfl,h.apart,(λp hp=>by cases hp),λe he ho hf=>?_⟩
  rcases List.mem_cons.1 he with rfl|he
  · show aQ _ (λw=>p w (sl (a.put (some d) v) d)) w
    rw[gE (by rw[h.size]; exact hd)]
    exact hp
  · rw[sd _ (hG e he)]
    exact h.jl e he ho hf
abbrev dY (id s:Nat) (R:Rel):Vr:=⟨id,s,none,none,.obj,0,0,false,R,[]⟩
def jE (β:Nat->Nat->Prop) (id:Nat) (B':Nat->Prop) (i:Nat):Nat->Prop:=if i=id then B' else β i
variable {id:Nat} {B':Nat->Prop}
theorem pP {β:Nat->Nat->Prop}:jE β id B' id=B':=if_pos rfl
theorem xo {β:Nat->Nat->Prop} {i:Nat} (h:i≠id):jE β id B' i=β i:=if_neg h
theorem aY.move {s n0:Nat} {R R':Rel} (h:aY c V [] G none_ β a w) (hV:cq V=true) (hG:dn G=true) (hk:V[n0]?=some (dY id s R)) (hu:∀(y:Vr) (n:Nat),V[n]?=some y->y.id=id->n=n0) (hle:de (β id) w w')
    (hB:∀k,B' k->β id k\/w.heap.size<=k) (hno:∀k,B' k->k<w'.heap.size/\∀o v,w'.cell? ⟨k,o,none⟩=some v->gR v) (hR:aQ (minus (own c V none_ β) (β id)) (λw=>R' B' w (sl a s)) w'):
    aY c (V.set n0 (dY id s R')) [] G none_ (jE β id B') a w':=by
  have hx:=List.mem_of_getElem? hk
  have uU:=(List.getElem?_eq_some_iff.1 hk).1
  have hmem:∀y,y∈V.set n0 (dY id s R')->y=dY id s R'\/(y∈V/\y.id≠id):=by
    intro y hy
    obtain⟨n,hn⟩:=List.mem_iff_getElem?.1 hy
    rw[List.getElem?_set]at hn
    by_cases he:n0=n
    · rw[if_pos he,if_pos uU]at hn
      exact .inl (Option.some.inj hn).symm
    · rw[if_neg he]at hn
      exact .inr ⟨List.mem_of_getElem? hn,λe=>he (hu y n hn e).symm⟩
  have gH:∀k,β id k->mine c k:=λk hk'=>(h.ja hV ⟨_,hx,hk'⟩).1
  have OJ:de c.gM c.w0 w':=⟨hle.os.trans h.below.os,hle.tape.trans h.below.tape,hle.output.trans h.below.output,Nat.le_trans h.below.size hle.size,λk hk' hn=>(hle.block k (Nat.lt_of_lt_of_le hk' h.below.size) λhb=>(gH k hb).elim (λh3=>by omega) hn).trans (h.below.block k hk' hn)⟩
  have Md:∀k,B' k->mine c k:=λk hk'=>(hB k hk').elim (gH k) λh1=>.inl (Nat.le_trans h.below.size h1)
  have ob:∀k o,β id k->own c V none_ β k o:=λk o hk'=>.inr ⟨_,hx,rfl,hk',Nat.zero_le _⟩
  have e1:Ext (own c V none_ β) w w':=Ext.Cy hle λk o _ hk'=>ob k o hk'
  have hβ:∀y:Vr,y.id≠id->(jE β id B') y.id=β y.id:=λy hy=>xo hy
  have Pa:(jE β id B') id=B':=pP
  have hown:∀k o,k<w.heap.size->own c (V.set n0 (dY id s R')) none_ (jE β id B') k o->own c V none_ β k o:=by
    rintro k o hk' (h1|⟨y,hy,h1,h2,h3⟩)
    · exact .inl h1
    · rcases hmem y hy with rfl|⟨qo,hid⟩
      · have h2:(jE β id B') id k:=h2
        rw[Pa]at h2
        exact(hB k h2).elim (ob k o) λh4=>by omega
      · rw[hβ y hid]at h2
        exact .inr ⟨y,qo,(bM hV qo).1,h2,h3⟩
  refine⟨h.size,h.defers,OJ,λk o h0=>⟨(h.old k o h0).1,λv hv=>(h.old k o h0).2 v ?_⟩,λy hy _=>?_,λy y' g hy hy' _ _ hne=>?_,(λp hp=>by cases hp),λe he ho hf=>?_⟩
  · have hk':k<w.heap.size:=Nat.lt_of_lt_of_le (h.old k o h0).1.1 h.below.size
    rw[World.cell?_of_block (w:=w) (a:=⟨k,o,none⟩) (hle.block k hk' λhb=>iw h (gH k hb) h0)]at hv
    exact hv
  · rcases hmem y hy with rfl|⟨qo,hid⟩
    · refine(aJ rfl).2 ?_
      show xL _ c none_ a w' _ ((jE β id B') id)
      rw[Pa]
      refine⟨λk hk'=>⟨Md k hk',hno k hk'⟩,?_⟩
      refine hR.sub λk o _ hk'=>?_
      rcases hk'.1 with h1|⟨y,hy,h1,h2,h3⟩
      · exact⟨.inl h1,λhb=>iw h (gH k hb) h1⟩
      · rcases hmem y hy with rfl|⟨qo,hid⟩
        · have h2:(jE β id B') id k:=h2
          rw[Pa]at h2
          exact absurd h2 hk'.2
        · rw[hβ y hid]at h2
          exact⟨.inr ⟨y,qo,(bM hV qo).1,h2,h3⟩,h.apart y _ k qo hx (bM hV qo).1 rfl hid h2⟩
    · have hl:=(bM hV qo).1
      have OS:∀g,β y.id g->¬β id g:=λg hg=>h.apart y _ g qo hx hl rfl hid hg
      have hlt:∀g,β y.id g->g<w.heap.size:=λg hg=>(h.ja hV ⟨y,qo,hg⟩).2.1
      refine(h.var y qo hl).keep rfl (hβ y hid) (λg hg=>hle.block g (hlt g hg) (OS g hg)) hle.size (λF hF=>hF.later e1 hown) (λF hF=>?_) rfl
      have e4:Ext (minus (own c V none_ β) (β y.id)) w w':=Ext.Cy hle λk j _ hk'=>⟨ob k j hk',λhy'=>OS k hy' hk'⟩
      exact hF.later e4 λk o hk' h=>⟨hown k o hk' h.1,h.2⟩
  · rcases hmem y hy with rfl|⟨qo,hid⟩<;>rcases hmem y' hy' with rfl|⟨FM,L5⟩
    · exact absurd rfl hne
    · show(jE β id B') id g->_
      rw[Pa,hβ y' L5]
      intro h1 h2
      rcases hB g h1 with h3|h3
      · exact h.apart _ y' g hx FM rfl (bM hV FM).1 (λe=>L5 e.symm) h3 h2
      · have:=(h.ja hV ⟨y',FM,h2⟩).2.1
        omega
    · show _->¬(jE β id B') id g
      rw[Pa,hβ y hid]
      intro h2 h1
      rcases hB g h1 with h3|h3
      · exact h.apart y _ g qo hx (bM hV qo).1 rfl hid h2 h3
      · have:=(h.ja hV ⟨y,qo,h2⟩).2.1
        omega
    · rw[hβ y hid,hβ y' L5]
      exact h.apart y y' g qo FM (bM hV qo).1 (bM hV FM).1 hne
  · obtain⟨k1,k2⟩:=vB hG he
    exact(h.jl e he k1 k2).later e1 hown
end
end Wx

namespace Wx
open Go Go.RowKit
def MN (l D:Nat) (r:Loop):Rel:=λB w _=>(∀k,B k↔k=l\/k=D)/\w.heap[l]?=some (.loop r)/\w.heap[D]?=some (.deferred (some []))/\D<l
abbrev dL (id l D:Nat) (r:Loop):Vr:=dY id id (MN l D r)
def Iu (a:Act) (s:Nat):aX:=⟨none,none,s,bR (sl a s)⟩
def jo (B:Nat->Prop) (w:World):Prop:=∀k,B k->k<w.heap.size/\∀o v,w.cell? ⟨k,o,none⟩=some v->gR v
def gv (V:List Vr) (id n0:Nat):Bool:=V.zipIdx.all λq=>q.1.id != id||q.2==n0
theorem iG {V:List Vr} {id n0:Nat} (h:gv V id n0=true) (y:Vr) (n:Nat) (hn:V[n]?=some y) (hy:y.id=id):n=n0:=by
 unfold gv at h
 rw[List.all_eq_true]at h
 have h1:=h (y,n) (List.mem_iff_getElem?.2 ⟨n,by simp[List.getElem?_zipIdx,hn]⟩)
 simpa [hy] using h1
variable {w:World}
theorem gT {k o:Nat} {ob:Obj} (h:w.heap[k]?=some ob) (hc:ob.isCells=false) (v:Value):w.cell? ⟨k,o,none⟩≠some v:=by
 intro e
 obtain⟨o',h1,h2⟩:=cells_of_cell e
 rw[h]at h1
 injection h1 with h1
 rw[<-h1,hc]at h2
 cases h2
theorem qp {B:Nat->Prop} {l:Nat} (o:Obj) (hl:B l):de B w (w.putObj l o):=
 ⟨rfl,rfl,rfl,by rw[World.putObj_size]; exact Nat.le_refl _,λk _ hn=>World.putObj_heap_other λe=>hn (e▸hl)⟩
section
variable {P:Program} {Q:Exit->Act->World->Prop} {c:dg} {V:List Vr} {G:List aX} {β:Nat->Nat->Prop} {a a':Act} {w w':World}
theorem aY.PC (h:aY c V [] G none_ β a w) (S:List Nat):aY c V [] (G++S.map (Iu a)) none_ β a w:=by
 refine⟨h.size,h.defers,h.below,h.old,h.var,h.apart,h.al,λe he ho hf=>?_⟩
 rcases List.mem_append.1 he with he|he
 ·exact h.jl e he ho hf
 ·obtain⟨s,_,rfl⟩:=List.mem_map.1 he
  exact aQ.always rfl _
theorem aY.uX {G':List aX} (h:aY c V [] G none_ β a w) (hg:∀e,e∈G'->e∈G):aY c V [] G' none_ β a w:=
 ⟨h.size,h.defers,h.below,h.old,h.var,h.apart,h.al,λe he ho hf=>h.jl e (hg e he) ho hf⟩
variable {id n0 l D:Nat} {r:Loop}
theorem aY.Ea (h:aY c V [] G none_ β a w) (hk:V[n0]?=some (dL id l D r)):(∀k,β id k↔k=l\/k=D)/\w.heap[l]?=some (.loop r)/\w.heap[D]?=some (.deferred (some []))/\D<l:=
 ((aJ rfl).1 (h.var _ (List.mem_of_getElem? hk) rfl)).2.out
theorem aY.record (r':Loop) (h:aY c V [] G none_ β a w) (hV:cq V=true) (hG:dn G=true) (hk:V[n0]?=some (dL id l D r)) (hu:gv V id n0=true):∃β',aY c (V.set n0 (dL id l D r')) [] G none_ β' a (w.putObj l (.loop r')):=by
 obtain⟨h1,h2,h3,h4⟩:=h.Ea hk
 have hlt:l<w.heap.size:=(Array.getElem?_eq_some_iff.1 h2).1
 have hl2:(w.putObj l (.loop r')).heap[l]?=some (.loop r'):=World.putObj_heap_same hlt
 have LY:(w.putObj l (.loop r')).heap[D]?=some (.deferred (some [])):=(World.putObj_heap_other (by omega)).trans h3
 refine⟨_,h.move (B':=β id) (R':=MN l D r') hV hG hk (iG hu) (qp _ ((h1 l).2 (.inl rfl))) (λk hk'=>.inl hk') (λk hk'=>?_) ?_⟩
 ·rw[World.putObj_size]
  rcases (h1 k).1 hk' with rfl|rfl
  ·exact⟨hlt,λo v hv=>absurd hv (gT hl2 rfl v)⟩
  ·exact⟨by omega,λo v hv=>absurd hv (gT LY rfl v)⟩
 ·intro w'' he
  have hb:∀k,β id k->w''.heap[k]?=(w.putObj l (.loop r')).heap[k]?:=λk hk'=>he.block k (by rw[World.putObj_size]; rcases (h1 k).1 hk' with rfl|rfl<;>omega) λo ho=>ho.2 hk'
  exact⟨h1,(hb l ((h1 l).2 (.inl rfl))).trans hl2,(hb D ((h1 D).2 (.inr rfl))).trans LY,h4⟩
def JU (l:Nat) (P:Program) (body:Code) (Q:Exit->Act->World->Prop) (a:Act) (w:World):Prop:=∃w2,(Instr.beginRound l).run P w=.ok () w2/\body.ww (some l) [] P Q a w2
theorem ET {body:Code} (hI:Inv c V [] G none_ a w) (n0:Nat) (hr:r.state=.ready) (h:∀w,Inv c (V.set n0 (dL id l D { r with state:=.busy })) [] G none_ a w->body.ww (some l) [] P Q a w)
  (hk:V[n0]?=some (dL id l D r):=by exact rfl) (hV:cq V=true:=by kernel_rfl) (hG:dn G=true:=by kernel_rfl) (hu:gv V id n0=true:=by kernel_rfl):JU l P body Q a w:=by
 obtain⟨β,hI⟩:=hI
 exact⟨_,run_beginRound (hI.Ea hk).2.1 hr,h _ (hI.record _ hV hG hk hu)⟩
theorem end_ {S:List Nat} {a0:Act} (jump:Option Code) (hI:Inv c V [] (G++S.map (Iu a0)) none_ a w) (hk:V[n0]?=some (dL id l D r)) (hV:cq V=true) (hG:dn G=true) (hu:gv V id n0=true)
  (TP:∀x,x∈V->x.slot∈S\/sl a x.slot=sl a0 x.slot) (Ke:∀e,e∈G->e.slot∈S):
  ∃β' w4,(Instr.endRound l jump).run P w=.ok (.bool jump.isNone) w4/\de c.gM c.w0 w4/\(∀k,jb (V.set n0 (dL id l D { r with state:=if jump.isNone then .ready else .done,pending:=jump })) β' k->mine c k) /\
   jo (jb (V.set n0 (dL id l D { r with state:=if jump.isNone then .ready else .done,pending:=jump })) β') w4/\aQ c.M0 (Told a0 (V.set n0 (dL id l D { r with state:=if jump.isNone then .ready else .done,pending:=jump })) G β') w4:=by
 obtain⟨β,hI⟩:=hI
 have heq:∀s,s∈S->sl a0 s=sl a s:=λs hs=>((hI.jl (Iu a0 s) (List.mem_append_right _ (List.mem_map.2 ⟨s,hs,rfl⟩)) rfl rfl).out:sl a s=sl a0 s).symm
 have Ci:=hI.uX (G':=G) λe he=>List.mem_append_left _ he
 obtain⟨β',h4⟩:=Ci.record { r with state:=if jump.isNone then .ready else .done,pending:=jump } hV hG hk hu
 have Rp:cq (V.set n0 (dL id l D { r with state:=if jump.isNone then .ready else .done,pending:=jump }))=true:=by
  unfold cq at hV ⊢
  rw[List.all_eq_true]at hV ⊢
  intro x hx
  rcases List.mem_or_eq_of_mem_set hx with hx|rfl
  ·exact hV x hx
  ·rfl
 refine⟨β',_,run_endRound jump (Ci.Ea hk).2.1,h4.below,λk hk'=>(h4.ja Rp hk').1,λk hk'=>(h4.ja Rp hk').2,(h4.told Rp hG).imp λw ht=>ht.act (λx hx=>?_) λe he=>heq _ (Ke e he)⟩
 rcases List.mem_or_eq_of_mem_set hx with hx|rfl
 ·exact(TP x hx).elim (heq _) λh=>h.symm
 ·exact(TP (dL id l D r) (List.mem_of_getElem? hk)).elim (heq _) λh=>h.symm
end
def vY (P:Program) (l:Nat) (vs:Array Value) (w:World) (R:Bool->World->Prop):Prop:=∀n,YieldAt (Ar none) n P l vs w λe w'=>∃b,e=.returned (.bool b)/\R b w'
def EJ (P:Program) (g:FuncId) (lb:Array Value) (n:Nat) (p q:Nat->Pred) (cap:World->Prop):Prop:=
 ∀(σ:Type) (l:Nat) (M:Nat->Nat->Prop) (Bs:σ->Nat->Prop) (J:Nat->σ->World->Prop) (X:σ->World->Prop) (s0:σ) (w:World),dR M w->(∀k,Bs s0 k->∀o,¬M k o)->jo (Bs s0) w->aQ M (J 0 s0) w->aQ (λk o=>M k o\/Bs s0 k) cap w ->
  (∀k s M' w' v0 v1,k<n->dR M' w'->(∀k,Bs s k->∀o,¬M' k o)->jo (Bs s) w'->aQ M' (J k s) w'->aQ (λk o=>M' k o\/Bs s k) (λw=>p k w v0) w'->aQ (λk o=>M' k o\/Bs s k) (λw=>q k w v1) w' ->
   vY P l #[v0,v1] w' λb w''=>∃s',de (Bs s) w' w''/\(∀k,Bs s' k->Bs s k\/w'.heap.size<=k)/\jo (Bs s') w''/\aQ M' (if b then J (k+1) s' else X s') w'') ->
  Calls P g (#[.func (.yield l) #[] #[]]++lb) w λe w'=>∃v s',e=.returned v/\de (Bs s0) w w'/\(∀k,Bs s' k->Bs s0 k\/w.heap.size<=k)/\jo (Bs s') w'/\(aQ M (J n s') w'\/aQ M (X s') w')
def GA (P:Program) (n:Nat) (p q:Nat->Pred) (cap:Array Value->World->Prop):Pred:=λw v=>∃g lb,v=.func (.func g) #[] lb/\aL P g/\EJ P g lb n p q (cap lb)/\cap lb w
end Wx
