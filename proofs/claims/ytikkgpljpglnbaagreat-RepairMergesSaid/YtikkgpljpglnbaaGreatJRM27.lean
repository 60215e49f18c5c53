import Derived.Test.YtikkgpljpglnbaaGreatJRM21
import Derived.RangeFuncNested
namespace Wx
open Go Go.RowKit
section
variable {M M':Nat->Nat->Prop} {B:Nat->Prop} {F:World->Prop} {w w':World}
abbrev KG (B:Nat->Prop):Nat->Nat->Prop:=λk _=>B k
theorem aL.later (h:aL M F w) (he:Ext M w w') (hm:∀k o,k<w.heap.size->M' k o->M k o):aL M' F w':=λw'' h'=>h w''
  ⟨Nat.le_trans he.size h'.size,λk hk hn=>(h'.block k (Nat.lt_of_lt_of_le hk he.size) λo ho=>hn o (hm k o hk ho)).trans (he.block k hk hn),
   λk o v hn hc=>h'.cell k o v (λho=>hn (hm k o (World.block_lt_of_cell? w _ hc) ho)) (he.cell k o v hn hc)⟩
theorem aL.join (h:aL M (aL (KG B) F) w) (hB:∀k,B k->k<w.heap.size):aL (λk o=>M k o\/B k) F w:=by
  intro w'' he
  classical
  let w':World:={ w'' with heap:=w''.heap.mapIdx λi o=>if B i then(w.heap[i]?).getD o else o }
  have hs:w'.heap.size=w''.heap.size:=by simp[w']
  have hg:∀k,w'.heap[k]?=if B k then w.heap[k]? else w''.heap[k]?:=by
    intro k
    show(w''.heap.mapIdx _)[k]?=_
    rw[Array.getElem?_mapIdx]
    by_cases hb:B k
    · have h1:=hB k hb
      have h2:k<w''.heap.size:=Nat.lt_of_lt_of_le h1 he.size
      simp[h1,h2,hb]
    · rw[if_neg hb]
      cases w''.heap[k]?<;>simp[hb]
  refine h w' ⟨by rw[hs]; exact he.size,?_,?_⟩ w'' ⟨by rw[hs]; exact Nat.le_refl _,?_,?_⟩
  · intro k hk hn
    rw[hg]
    by_cases hb:B k
    · rw[if_pos hb]
    · rw[if_neg hb]; exact he.block k hk λo ho=>ho.elim (hn o) hb
  · intro k o v hn hc
    by_cases hb:B k
    · rw[World.cell?_of_block (w:=w) (a:=⟨k,o,none⟩) (by rw[hg,if_pos hb])]; exact hc
    · rw[World.cell?_of_block (w:=w'') (a:=⟨k,o,none⟩) (by rw[hg,if_neg hb])]; exact he.cell k o v (λho=>ho.elim hn hb) hc
  · intro k _ hn
    rw[hg,if_neg (hn 0)]
  · intro k o v hn hc
    rw[World.cell?_of_block (w:=w') (a:=⟨k,o,none⟩) (by rw[hg,if_neg hn])]
    exact hc
end
def Kd.yB:Kd->Bool
  |.grow _ _=>true
  |_=>false
def bE (V:List Vr):Bool:=V.all λx=>x.born.isNone&&(x.dead.isNone&&!x.kd.yB)
def cw (G:List aQ):Bool:=G.all λe=>e.tag.isNone&&e.till.isNone
theorem bA {V:List Vr} (h:bE V=true) {x:Vr} (hx:x∈V):live none_ x=true/\x.lo=0/\∀m sz,x.kd≠.grow m sz:=by
  unfold bE at h
  rw[List.all_eq_true]at h
  have h1:=h x hx
  simp only[Bool.and_eq_true,Option.isNone_iff_eq_none]at h1
  refine⟨by unfold live; rw[h1.1,h1.2.1]; rfl,?_,λm sz e=>by rw[e]at h1; simp[Kd.yB]at h1⟩
  unfold Vr.lo
  cases hk:x.kd with
  |grow m sz=>rw[hk]at h1; simp[Kd.yB]at h1
  |_=>rfl
theorem tC {G:List aQ} (h:cw G=true) {e:aQ} (he:e∈G):on none_ e.tag=true/\off none_ e.till=true:=by
  unfold cw at h
  rw[List.all_eq_true]at h
  have h1:=h e he
  simp only[Bool.and_eq_true,Option.isNone_iff_eq_none]at h1
  rw[h1.1,h1.2]
  exact⟨rfl,rfl⟩
def gT (V:List Vr) (β:Nat->Nat->Prop) (k:Nat):Prop:=∃x,x∈V/\β x.id k
def Li (w:World):cF:=⟨0,w,λ_ _=>False,λ_=>True⟩
structure Told (a:Act) (V:List Vr) (G:List aQ) (β:Nat->Nat->Prop) (w:World):Prop where
  var:∀x,x∈V->jz (KG (gT V β)) (Li w) none_ β a w x
  apart:∀x y g,x∈V->y∈V->x.id≠y.id->β x.id g->¬β y.id g
  gD:∀e,e∈G->aL (KG (gT V β)) (λw=>e.p w (sl a e.slot)) w
section
variable {c c':cF} {V:List Vr} {A:List Al} {G:List aQ} {L:Nat->Bool} {β:Nat->Nat->Prop} {a a':Act} {w w':World} {M:Nat->Nat->Prop}
theorem jz.cfg {x:Vr} (h:jz M c L β a w x) (hm:∀k,β x.id k->mine c' k):jz M c' L β a w x:=by
  rcases gj x.kd with hk|⟨m,sz,hk⟩|hk
  · obtain⟨g,e,h1,h2⟩:=(bj hk).1 h
    exact(bj hk).2 ⟨g,e,h1,hm g ((e g).2 rfl),h2.held⟩
  · rcases (bh hk).1 h with h1|⟨b,cap,cur,e,h1,h2,h3⟩
    · exact(bh hk).2 (.inl h1)
    · exact(bh hk).2 (.inr ⟨b,cap,cur,e,h1,hm b ((e b).2 rfl),h3⟩)
  · obtain⟨h1,h2⟩:=(aG hk).1 h
    exact(aG hk).2 ⟨λk hk'=>⟨hm k hk',(h1 k hk').2⟩,h2⟩
theorem aT.gR (h:aT c V A G none_ β a w) (hV:bE V=true) {k:Nat} (hk:gT V β k):mine c k/\k<w.heap.size/\∀o v,w.cell? ⟨k,o,none⟩=some v->fq v:=by
  obtain⟨x,hx,hb⟩:=hk
  exact(h.var x hx (bA hV hx).1).blk hb
theorem gl (h:aT c V A G L β a w) {k o:Nat} (hm:mine c k):¬c.M0 k o:=λh0=>by
  have h1:=(h.old k o h0).1
  exact hm.elim (λh2=>by omega) h1.2
theorem aT.told (h:aT c V A G none_ β a w) (hV:bE V=true) (hG:cw G=true):aL c.M0 (Told a V G β) w:=by
  intro w1 he
  have ho:∀k o,gT V β k->own c V none_ β k o:=λk o ⟨x,hx,hb⟩=>.inr ⟨x,hx,(bA hV hx).1,hb,by rw[(bA hV hx).2.1]; exact Nat.zero_le _⟩
  have hn:∀k,gT V β k->∀o,¬c.M0 k o:=λk hk o=>gl h (h.gR hV hk).1
  have e1:Ext (own c V none_ β) w w1:=he.mono λk o _ hk=>.inl hk
  refine⟨λx hx=>?_,λx y g hx hy hne=>h.apart x y g hx hy (bA hV hx).1 (bA hV hy).1 hne,λe he'=>?_⟩
  · have hv:=(h.var x hx (bA hV hx).1).cfg (c':=Li w1) λ_ _=>.inr trivial
    refine hv.keep rfl rfl (λg hg=>he.block g (h.gR hV ⟨x,hx,hg⟩).2.1 (hn g ⟨x,hx,hg⟩)) he.size (λF hF=>(hF.ext e1).sub λk o _ hk=>ho k o hk) (λF hF=>?_) rfl
    have e2:Ext (minus (own c V none_ β) (β x.id)) w w1:=he.mono λk o _ hk=>⟨.inl hk,λhb=>hn k ⟨x,hx,hb⟩ o hk⟩
    exact(hF.ext e2).sub λk o _ hk=>⟨ho k o hk.1,hk.2⟩
  · obtain⟨h1,h2⟩:=tC hG he'
    exact((h.gD e he' h1 h2).ext e1).sub λk o _ hk=>ho k o hk
theorem Told.act (h:Told a V G β w) (hV:∀x,x∈V->sl a' x.slot=sl a x.slot) (hG:∀e,e∈G->sl a' e.slot=sl a e.slot):Told a' V G β w:=
  ⟨λx hx=>(h.var x hx).keep (hV x hx) rfl (λ_ _=>rfl) (Nat.le_refl _) (λ_ h=>h) (λ_ h=>h) rfl,h.apart,λe he=>by rw[hG e he]; exact h.gD e he⟩
theorem Told.inv (h:aL c.M0 (Told a V G β) w) (hV:bE V=true) (hs:a.tmps.size=c.N) (hd:a.defers=[]) (hm:∀k,gT V β k->mine c k)
    (Jw:cA c.fH c.w0 w) (hold:∀k o,c.M0 k o->(k<c.w0.heap.size/\¬c.fH k)/\∀v,w.cell? ⟨k,o,none⟩=some v->fq v):aT c V [] G none_ β a w:=by
  have h0:=h.out
  have hn:∀k,gT V β k->∀o,¬c.M0 k o:=λk hk o h0=>(hm k hk).elim (λh2=>by have:=(hold k o h0).1.1; omega) (hold k o h0).1.2
  have hz:∀k,gT V β k->k<w.heap.size:=λk ⟨x,hx,hb⟩=>((h0.var x hx).blk hb).2.1
  have hown:∀k o,own c V none_ β k o->c.M0 k o\/gT V β k:=λk o h=>h.elim .inl λ⟨x,hx,_,hb,_⟩=>.inr ⟨x,hx,hb⟩
  refine⟨hs,hd,Jw,hold,λx hx _=>?_,λx y g hx hy _ _ hne=>h0.apart x y g hx hy hne,(λp hp=>by cases hp),λe he _ _=>?_⟩
  · rcases gj x.kd with hk|⟨m,sz,hk⟩|hk
    · obtain⟨g,e,h1,h2⟩:=(bj hk).1 (h0.var x hx)
      obtain⟨cs,h3,h4,h5,_⟩:=h2.held
      have hb:gT V β g:=⟨x,hx,(e g).2 rfl⟩
      refine(bj hk).2 ⟨g,e,h1,hm g hb,cs,h3,h4,h5,?_⟩
      have key:aL c.M0 (aL (KG (gT V β)) λw=>cont none_ x.c0 x.st (·=g) w (aq x.agg cs)) w:=by
        intro w1 he
        obtain⟨g1,e1,_,k2⟩:=(bj hk).1 ((h w1 he).var x hx)
        obtain⟨cs1,k3,_,_,k6⟩:=k2.held
        have eg:g1=g:=((e1 g).1 ((e g).2 rfl)).symm
        subst eg
        rw[he.block g1 (hz g1 hb) (hn g1 hb),h3]at k3
        have ec:cs=cs1:=by simpa using k3
        subst ec
        exact k6
      exact(key.join hz).sub λk o _ hk=>hown k o hk
    · exact absurd hk ((bA hV hx).2.2 m sz)
    · obtain⟨h1,_⟩:=(aG hk).1 (h0.var x hx)
      refine(aG hk).2 ⟨λk hk'=>⟨hm k ⟨x,hx,hk'⟩,(h1 k hk').2⟩,?_⟩
      have key:aL c.M0 (aL (KG λk=>gT V β k/\¬β x.id k) λw=>cont none_ x.c0 x.st (β x.id) w (sl a x.slot)) w:=λw1 he=>((aG hk).1 ((h w1 he).var x hx)).2
      exact(key.join λk hk=>hz k hk.1).sub λk o _ hk=>(hown k o hk.1).elim .inl λh=>.inr ⟨h,hk.2⟩
  · have key:aL c.M0 (aL (KG (gT V β)) λw=>e.p w (sl a e.slot)) w:=λw1 hw=>(h w1 hw).gD e he
    exact(key.join hz).sub λk o _ hk=>hown k o hk
theorem aT.mK {d:Nat} {p:Pred} {v:Value} (h:aT c V [] G none_ β a w) (hd:d<c.N) (hV:∀x,x∈V->x.slot≠d) (hG:∀e,e∈G->e.slot≠d) (hp:aL (own c V none_ β) (λw=>p w v) w):aT c V [] (⟨none,none,d,p⟩::G) none_ β (a.put (some d) v) w:=by
  have sd:∀s,s≠d->sl (a.put (some d) v) s=sl a s:=λs hs=>bT λe=>hs (Option.some.inj e).symm
  refine⟨by rw[iE]; exact h.size,by rw[put_defers]; exact h.defers,h.below,h.old,λx hx hl=>(h.var x hx hl).keep (sd _ (hV x hx)) rfl (λ_ _=>rfl) (Nat.le_refl _) (λ_ h=>h) (λ_ h=>h) rfl,h.apart,(λp hp=>by cases hp),λe he ho hf=>?_⟩
  rcases List.mem_cons.1 he with rfl|he
  · show aL _ (λw=>p w (sl (a.put (some d) v) d)) w
    rw[gy (by rw[h.size]; exact hd)]
    exact hp
  · rw[sd _ (hG e he)]
    exact h.gD e he ho hf
abbrev dc (id s:Nat) (R:Rel):Vr:=⟨id,s,none,none,.obj,0,0,false,R,[]⟩
def gZ (β:Nat->Nat->Prop) (id:Nat) (B':Nat->Prop) (i:Nat):Nat->Prop:=if i=id then B' else β i
variable {id:Nat} {B':Nat->Prop}
theorem nM {β:Nat->Nat->Prop}:gZ β id B' id=B':=if_pos rfl
theorem uI {β:Nat->Nat->Prop} {i:Nat} (h:i≠id):gZ β id B' i=β i:=if_neg h
theorem aT.move {s n0:Nat} {R R':Rel} (h:aT c V [] G none_ β a w) (hV:bE V=true) (hG:cw G=true) (hk:V[n0]?=some (dc id s R)) (hu:∀(y:Vr) (n:Nat),V[n]?=some y->y.id=id->n=n0) (hle:cA (β id) w w')
    (hB:∀k,B' k->β id k\/w.heap.size<=k) (hno:∀k,B' k->k<w'.heap.size/\∀o v,w'.cell? ⟨k,o,none⟩=some v->fq v) (hR:aL (minus (own c V none_ β) (β id)) (λw=>R' B' w (sl a s)) w'):
    aT c (V.set n0 (dc id s R')) [] G none_ (gZ β id B') a w':=by
  have hx:=List.mem_of_getElem? hk
  have yn:=(List.getElem?_eq_some_iff.1 hk).1
  have hmem:∀y,y∈V.set n0 (dc id s R')->y=dc id s R'\/(y∈V/\y.id≠id):=by
    intro y hy
    obtain⟨n,hn⟩:=List.mem_iff_getElem?.1 hy
    rw[List.getElem?_set]at hn
    by_cases he:n0=n
    · rw[if_pos he,if_pos yn]at hn
      exact .inl (Option.some.inj hn).symm
    · rw[if_neg he]at hn
      exact .inr ⟨List.mem_of_getElem? hn,λe=>he (hu y n hn e).symm⟩
  have fI:∀k,β id k->mine c k:=λk hk'=>(h.gR hV ⟨_,hx,hk'⟩).1
  have Mp:cA c.fH c.w0 w':=⟨hle.os.trans h.below.os,hle.tape.trans h.below.tape,hle.output.trans h.below.output,Nat.le_trans h.below.size hle.size,λk hk' hn=>(hle.block k (Nat.lt_of_lt_of_le hk' h.below.size) λhb=>(fI k hb).elim (λh3=>by omega) hn).trans (h.below.block k hk' hn)⟩
  have JF:∀k,B' k->mine c k:=λk hk'=>(hB k hk').elim (fI k) λh1=>.inl (Nat.le_trans h.below.size h1)
  have ob:∀k o,β id k->own c V none_ β k o:=λk o hk'=>.inr ⟨_,hx,rfl,hk',Nat.zero_le _⟩
  have e1:Ext (own c V none_ β) w w':=Ext.Az hle λk o _ hk'=>ob k o hk'
  have hβ:∀y:Vr,y.id≠id->(gZ β id B') y.id=β y.id:=λy hy=>uI hy
  have MK:(gZ β id B') id=B':=nM
  have hown:∀k o,k<w.heap.size->own c (V.set n0 (dc id s R')) none_ (gZ β id B') k o->own c V none_ β k o:=by
    rintro k o hk' (h1|⟨y,hy,h1,h2,h3⟩)
    · exact .inl h1
    · rcases hmem y hy with rfl|⟨oo,hid⟩
      · have h2:(gZ β id B') id k:=h2
        rw[MK]at h2
        exact(hB k h2).elim (ob k o) λh4=>by omega
      · rw[hβ y hid]at h2
        exact .inr ⟨y,oo,(bA hV oo).1,h2,h3⟩
  refine⟨h.size,h.defers,Mp,λk o h0=>⟨(h.old k o h0).1,λv hv=>(h.old k o h0).2 v ?_⟩,λy hy _=>?_,λy y' g hy hy' _ _ hne=>?_,(λp hp=>by cases hp),λe he ho hf=>?_⟩
  · have hk':k<w.heap.size:=Nat.lt_of_lt_of_le (h.old k o h0).1.1 h.below.size
    rw[World.cell?_of_block (w:=w) (a:=⟨k,o,none⟩) (hle.block k hk' λhb=>gl h (fI k hb) h0)]at hv
    exact hv
  · rcases hmem y hy with rfl|⟨oo,hid⟩
    · refine(aG rfl).2 ?_
      show uU _ c none_ a w' _ ((gZ β id B') id)
      rw[MK]
      refine⟨λk hk'=>⟨JF k hk',hno k hk'⟩,?_⟩
      refine hR.sub λk o _ hk'=>?_
      rcases hk'.1 with h1|⟨y,hy,h1,h2,h3⟩
      · exact⟨.inl h1,λhb=>gl h (fI k hb) h1⟩
      · rcases hmem y hy with rfl|⟨oo,hid⟩
        · have h2:(gZ β id B') id k:=h2
          rw[MK]at h2
          exact absurd h2 hk'.2
        · rw[hβ y hid]at h2
          exact⟨.inr ⟨y,oo,(bA hV oo).1,h2,h3⟩,h.apart y _ k oo hx (bA hV oo).1 rfl hid h2⟩
    · have hl:=(bA hV oo).1
      have HO:∀g,β y.id g->¬β id g:=λg hg=>h.apart y _ g oo hx hl rfl hid hg
      have hlt:∀g,β y.id g->g<w.heap.size:=λg hg=>(h.gR hV ⟨y,oo,hg⟩).2.1
      refine(h.var y oo hl).keep rfl (hβ y hid) (λg hg=>hle.block g (hlt g hg) (HO g hg)) hle.size (λF hF=>hF.later e1 hown) (λF hF=>?_) rfl
      have e4:Ext (minus (own c V none_ β) (β y.id)) w w':=Ext.Az hle λk j _ hk'=>⟨ob k j hk',λhy'=>HO k hy' hk'⟩
      exact hF.later e4 λk o hk' h=>⟨hown k o hk' h.1,h.2⟩
  · rcases hmem y hy with rfl|⟨oo,hid⟩<;>rcases hmem y' hy' with rfl|⟨Dm,JA⟩
    · exact absurd rfl hne
    · show(gZ β id B') id g->_
      rw[MK,hβ y' JA]
      intro h1 h2
      rcases hB g h1 with h3|h3
      · exact h.apart _ y' g hx Dm rfl (bA hV Dm).1 (λe=>JA e.symm) h3 h2
      · have:=(h.gR hV ⟨y',Dm,h2⟩).2.1
        omega
    · show _->¬(gZ β id B') id g
      rw[MK,hβ y hid]
      intro h2 h1
      rcases hB g h1 with h3|h3
      · exact h.apart y _ g oo hx (bA hV oo).1 rfl hid h2 h3
      · have:=(h.gR hV ⟨y,oo,h2⟩).2.1
        omega
    · rw[hβ y hid,hβ y' JA]
      exact h.apart y y' g oo Dm (bA hV oo).1 (bA hV Dm).1 hne
  · obtain⟨k1,k2⟩:=tC hG he
    exact(h.gD e he k1 k2).later e1 hown
end
end Wx

namespace Wx
open Go Go.RowKit
def J7 (l D:Nat) (r:Loop):Rel:=λB w _=>(∀k,B k↔k=l\/k=D)/\w.heap[l]?=some (.loop r)/\w.heap[D]?=some (.deferred (some []))/\D<l
abbrev cS (id l D:Nat) (r:Loop):Vr:=dc id id (J7 l D r)
def Fx (a:Act) (s:Nat):aQ:=⟨none,none,s,bg (sl a s)⟩
def iv (B:Nat->Prop) (w:World):Prop:=∀k,B k->k<w.heap.size/\∀o v,w.cell? ⟨k,o,none⟩=some v->fq v
def eu (V:List Vr) (id n0:Nat):Bool:=V.zipIdx.all λq=>q.1.id != id||q.2==n0
theorem ew {V:List Vr} {id n0:Nat} (h:eu V id n0=true) (y:Vr) (n:Nat) (hn:V[n]?=some y) (hy:y.id=id):n=n0:=by
 unfold eu at h
 rw[List.all_eq_true]at h
 have h1:=h (y,n) (List.mem_iff_getElem?.2 ⟨n,by simp[List.getElem?_zipIdx,hn]⟩)
 simpa [hy] using h1
variable {w:World}
theorem fS {k o:Nat} {ob:Obj} (h:w.heap[k]?=some ob) (hc:ob.isCells=false) (v:Value):w.cell? ⟨k,o,none⟩≠some v:=by
 intro e
 obtain⟨o',h1,h2⟩:=cells_of_cell e
 rw[h]at h1
 injection h1 with h1
 rw[<-h1,hc]at h2
 cases h2
theorem oq {B:Nat->Prop} {l:Nat} (o:Obj) (hl:B l):cA B w (w.putObj l o):=
 ⟨rfl,rfl,rfl,by rw[World.putObj_size]; exact Nat.le_refl _,λk _ hn=>World.putObj_heap_other λe=>hn (e▸hl)⟩
section
variable {P:Program} {Q:Exit->Act->World->Prop} {c:cF} {V:List Vr} {G:List aQ} {β:Nat->Nat->Prop} {a a':Act} {w w':World}
theorem aT.M9 (h:aT c V [] G none_ β a w) (S:List Nat):aT c V [] (G++S.map (Fx a)) none_ β a w:=by
 refine⟨h.size,h.defers,h.below,h.old,h.var,h.apart,h.al,λe he ho hf=>?_⟩
 rcases List.mem_append.1 he with he|he
 ·exact h.gD e he ho hf
 ·obtain⟨s,_,rfl⟩:=List.mem_map.1 he
  exact aL.always rfl _
theorem aT.tg {G':List aQ} (h:aT c V [] G none_ β a w) (hg:∀e,e∈G'->e∈G):aT c V [] G' none_ β a w:=
 ⟨h.size,h.defers,h.below,h.old,h.var,h.apart,h.al,λe he ho hf=>h.gD e (hg e he) ho hf⟩
variable {id n0 l D:Nat} {r:Loop}
theorem aT.B3 (h:aT c V [] G none_ β a w) (hk:V[n0]?=some (cS id l D r)):(∀k,β id k↔k=l\/k=D)/\w.heap[l]?=some (.loop r)/\w.heap[D]?=some (.deferred (some []))/\D<l:=
 ((aG rfl).1 (h.var _ (List.mem_of_getElem? hk) rfl)).2.out
theorem aT.record (r':Loop) (h:aT c V [] G none_ β a w) (hV:bE V=true) (hG:cw G=true) (hk:V[n0]?=some (cS id l D r)) (hu:eu V id n0=true):∃β',aT c (V.set n0 (cS id l D r')) [] G none_ β' a (w.putObj l (.loop r')):=by
 obtain⟨h1,h2,h3,h4⟩:=h.B3 hk
 have hlt:l<w.heap.size:=(Array.getElem?_eq_some_iff.1 h2).1
 have hl2:(w.putObj l (.loop r')).heap[l]?=some (.loop r'):=World.putObj_heap_same hlt
 have KQ:(w.putObj l (.loop r')).heap[D]?=some (.deferred (some [])):=(World.putObj_heap_other (by omega)).trans h3
 refine⟨_,h.move (B':=β id) (R':=J7 l D r') hV hG hk (ew hu) (oq _ ((h1 l).2 (.inl rfl))) (λk hk'=>.inl hk') (λk hk'=>?_) ?_⟩
 ·rw[World.putObj_size]
  rcases (h1 k).1 hk' with rfl|rfl
  ·exact⟨hlt,λo v hv=>absurd hv (fS hl2 rfl v)⟩
  ·exact⟨by omega,λo v hv=>absurd hv (fS KQ rfl v)⟩
 ·intro w'' he
  have hb:∀k,β id k->w''.heap[k]?=(w.putObj l (.loop r')).heap[k]?:=λk hk'=>he.block k (by rw[World.putObj_size]; rcases (h1 k).1 hk' with rfl|rfl<;>omega) λo ho=>ho.2 hk'
  exact⟨h1,(hb l ((h1 l).2 (.inl rfl))).trans hl2,(hb D ((h1 D).2 (.inr rfl))).trans KQ,h4⟩
def G3 (l:Nat) (P:Program) (body:Code) (Q:Exit->Act->World->Prop) (a:Act) (w:World):Prop:=∃w2,(Instr.beginRound l).run P w=.ok () w2/\body.ww (some l) [] P Q a w2
theorem CE {body:Code} (hI:Inv c V [] G none_ a w) (n0:Nat) (hr:r.state=.ready) (h:∀w,Inv c (V.set n0 (cS id l D { r with state:=.busy })) [] G none_ a w->body.ww (some l) [] P Q a w)
  (hk:V[n0]?=some (cS id l D r):=by exact rfl) (hV:bE V=true:=by kernel_rfl) (hG:cw G=true:=by kernel_rfl) (hu:eu V id n0=true:=by kernel_rfl):G3 l P body Q a w:=by
 obtain⟨β,hI⟩:=hI
 exact⟨_,run_beginRound (hI.B3 hk).2.1 hr,h _ (hI.record _ hV hG hk hu)⟩
theorem end_ {S:List Nat} {a0:Act} (jump:Option Code) (hI:Inv c V [] (G++S.map (Fx a0)) none_ a w) (hk:V[n0]?=some (cS id l D r)) (hV:bE V=true) (hG:cw G=true) (hu:eu V id n0=true)
  (Rm:∀x,x∈V->x.slot∈S\/sl a x.slot=sl a0 x.slot) (Ht:∀e,e∈G->e.slot∈S):
  ∃β' w4,(Instr.endRound l jump).run P w=.ok (.bool jump.isNone) w4/\cA c.fH c.w0 w4/\(∀k,gT (V.set n0 (cS id l D { r with state:=if jump.isNone then .ready else .done,pending:=jump })) β' k->mine c k) /\
   iv (gT (V.set n0 (cS id l D { r with state:=if jump.isNone then .ready else .done,pending:=jump })) β') w4/\aL c.M0 (Told a0 (V.set n0 (cS id l D { r with state:=if jump.isNone then .ready else .done,pending:=jump })) G β') w4:=by
 obtain⟨β,hI⟩:=hI
 have heq:∀s,s∈S->sl a0 s=sl a s:=λs hs=>((hI.gD (Fx a0 s) (List.mem_append_right _ (List.mem_map.2 ⟨s,hs,rfl⟩)) rfl rfl).out:sl a s=sl a0 s).symm
 have zY:=hI.tg (G':=G) λe he=>List.mem_append_left _ he
 obtain⟨β',h4⟩:=zY.record { r with state:=if jump.isNone then .ready else .done,pending:=jump } hV hG hk hu
 have OX:bE (V.set n0 (cS id l D { r with state:=if jump.isNone then .ready else .done,pending:=jump }))=true:=by
  unfold bE at hV ⊢
  rw[List.all_eq_true]at hV ⊢
  intro x hx
  rcases List.mem_or_eq_of_mem_set hx with hx|rfl
  ·exact hV x hx
  ·rfl
 refine⟨β',_,run_endRound jump (zY.B3 hk).2.1,h4.below,λk hk'=>(h4.gR OX hk').1,λk hk'=>(h4.gR OX hk').2,(h4.told OX hG).imp λw ht=>ht.act (λx hx=>?_) λe he=>heq _ (Ht e he)⟩
 rcases List.mem_or_eq_of_mem_set hx with hx|rfl
 ·exact(Rm x hx).elim (heq _) λh=>h.symm
 ·exact(Rm (cS id l D r) (List.mem_of_getElem? hk)).elim (heq _) λh=>h.symm
end
def tQ (P:Program) (l:Nat) (vs:Array Value) (w:World) (R:Bool->World->Prop):Prop:=∀n,YieldAt (yc none) n P l vs w λe w'=>∃b,e=.returned (.bool b)/\R b w'
def CA (P:Program) (g:FuncId) (lb:Array Value) (n:Nat) (p q:Nat->Pred) (cap:World->Prop):Prop:=
 ∀(σ:Type) (l:Nat) (M:Nat->Nat->Prop) (Bs:σ->Nat->Prop) (J:Nat->σ->World->Prop) (X:σ->World->Prop) (s0:σ) (w:World),cQ M w->(∀k,Bs s0 k->∀o,¬M k o)->iv (Bs s0) w->aL M (J 0 s0) w->aL (λk o=>M k o\/Bs s0 k) cap w ->
  (∀k s M' w' v0 v1,k<n->cQ M' w'->(∀k,Bs s k->∀o,¬M' k o)->iv (Bs s) w'->aL M' (J k s) w'->aL (λk o=>M' k o\/Bs s k) (λw=>p k w v0) w'->aL (λk o=>M' k o\/Bs s k) (λw=>q k w v1) w' ->
   tQ P l #[v0,v1] w' λb w''=>∃s',cA (Bs s) w' w''/\(∀k,Bs s' k->Bs s k\/w'.heap.size<=k)/\iv (Bs s') w''/\aL M' (if b then J (k+1) s' else X s') w'') ->
  Calls P g (#[.func (.yield l) #[] #[]]++lb) w λe w'=>∃v s',e=.returned v/\cA (Bs s0) w w'/\(∀k,Bs s' k->Bs s0 k\/w.heap.size<=k)/\iv (Bs s') w'/\(aL M (J n s') w'\/aL M (X s') w')
def D3 (P:Program) (n:Nat) (p q:Nat->Pred) (cap:Array Value->World->Prop):Pred:=λw v=>∃g lb,v=.func (.func g) #[] lb/\aJ P g/\CA P g lb n p q (cap lb)/\cap lb w
end Wx
