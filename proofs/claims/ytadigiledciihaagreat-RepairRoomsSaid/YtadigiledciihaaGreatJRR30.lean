import Derived.Test.YtadigiledciihaaGreatJRR23
import Derived.RangeFuncNested
namespace Wx
open Go Go.RowKit
section
variable {M M':Nat->Nat->Prop} {B:Nat->Prop} {F:World->Prop} {w w':World}
abbrev KR (B:Nat->Prop):Nat->Nat->Prop:=λk _=>B k
theorem aP.later (h:aP M F w) (he:Ext M w w') (hm:∀k o,k<w.heap.size->M' k o->M k o):aP M' F w':=λw'' h'=>h w''
  ⟨Nat.le_trans he.size h'.size,λk hk hn=>(h'.block k (Nat.lt_of_lt_of_le hk he.size) λo ho=>hn o (hm k o hk ho)).trans (he.block k hk hn),
   λk o v hn hc=>h'.cell k o v (λho=>hn (hm k o (World.block_lt_of_cell? w _ hc) ho)) (he.cell k o v hn hc)⟩
theorem aP.join (h:aP M (aP (KR B) F) w) (hB:∀k,B k->k<w.heap.size):aP (λk o=>M k o\/B k) F w:=by
  intro w'' he
  classical
  let w':World:={ w'' with heap:=w''.heap.mapIdx λi o=>if B i then(w.heap[i]?).getD o else o }
  have hs:w'.heap.size=w''.heap.size:=by simp[w']
  have hg:∀k,w'.heap[k]?=if B k then w.heap[k]? else w''.heap[k]?:=by
    intro k
    show(w''.heap.mapIdx _)[k]?=_
    rw[Array.getElem?_mapIdx]
    by_cases hb:B k
    · have h1:=hB k hb
      have h2:k<w''.heap.size:=Nat.lt_of_lt_of_le h1 he.size
      simp[h1,h2,hb]
    · rw[if_neg hb]
      cases w''.heap[k]?<;>simp[hb]
  refine h w' ⟨by rw[hs]; exact he.size,?_,?_⟩ w'' ⟨by rw[hs]; exact Nat.le_refl _,?_,?_⟩
  · intro k hk hn
    rw[hg]
    by_cases hb:B k
    · rw[if_pos hb]
    · rw[if_neg hb]; exact he.block k hk λo ho=>ho.elim (hn o) hb
  · intro k o v hn hc
    by_cases hb:B k
    · rw[World.cell?_of_block (w:=w) (a:=⟨k,o,none⟩) (by rw[hg,if_pos hb])]; exact hc
    · rw[World.cell?_of_block (w:=w'') (a:=⟨k,o,none⟩) (by rw[hg,if_neg hb])]; exact he.cell k o v (λho=>ho.elim hn hb) hc
  · intro k _ hn
    rw[hg,if_neg (hn 0)]
  · intro k o v hn hc
    rw[World.cell?_of_block (w:=w') (a:=⟨k,o,none⟩) (by rw[hg,if_neg hn])]
    exact hc
end
def Kd.yU:Kd->Bool
  |.grow _ _=>true
  |_=>false
def b8 (V:List Vr):Bool:=V.all λx=>x.born.isNone&&(x.dead.isNone&&!x.kd.yU)
def cW (G:List aV):Bool:=G.all λe=>e.tag.isNone&&e.till.isNone
theorem bG {V:List Vr} (h:b8 V=true) {x:Vr} (hx:x∈V):live none_ x=true/\x.lo=0/\∀m sz,x.kd≠.grow m sz:=by
  unfold b8 at h
  rw[List.all_eq_true]at h
  have h1:=h x hx
  simp only[Bool.and_eq_true,Option.isNone_iff_eq_none]at h1
  refine⟨by unfold live; rw[h1.1,h1.2.1]; rfl,?_,λm sz e=>by rw[e]at h1; simp[Kd.yU]at h1⟩
  unfold Vr.lo
  cases hk:x.kd with
  |grow m sz=>rw[hk]at h1; simp[Kd.yU]at h1
  |_=>rfl
theorem tS {G:List aV} (h:cW G=true) {e:aV} (he:e∈G):on none_ e.tag=true/\off none_ e.till=true:=by
  unfold cW at h
  rw[List.all_eq_true]at h
  have h1:=h e he
  simp only[Bool.and_eq_true,Option.isNone_iff_eq_none]at h1
  rw[h1.1,h1.2]
  exact⟨rfl,rfl⟩
def iK (V:List Vr) (β:Nat->Nat->Prop) (k:Nat):Prop:=∃x,x∈V/\β x.id k
def Lk (w:World):dg:=⟨0,w,λ_ _=>False,λ_=>True⟩
structure Told (a:Act) (V:List Vr) (G:List aV) (β:Nat->Nat->Prop) (w:World):Prop where
  var:∀x,x∈V->ku (KR (iK V β)) (Lk w) none_ β a w x
  apart:∀x y g,x∈V->y∈V->x.id≠y.id->β x.id g->¬β y.id g
  iU:∀e,e∈G->aP (KR (iK V β)) (λw=>e.p w (sl a e.slot)) w
section
variable {c c':dg} {V:List Vr} {A:List Al} {G:List aV} {L:Nat->Bool} {β:Nat->Nat->Prop} {a a':Act} {w w':World} {M:Nat->Nat->Prop}
theorem ku.cfg {x:Vr} (h:ku M c L β a w x) (hm:∀k,β x.id k->mine c' k):ku M c' L β a w x:=by
  rcases gQ x.kd with hk|⟨m,sz,hk⟩|hk
  · obtain⟨g,e,h1,h2⟩:=(bE hk).1 h
    exact(bE hk).2 ⟨g,e,h1,hm g ((e g).2 rfl),h2.held⟩
  · rcases (bH hk).1 h with h1|⟨b,cap,cur,e,h1,h2,h3⟩
    · exact(bH hk).2 (.inl h1)
    · exact(bH hk).2 (.inr ⟨b,cap,cur,e,h1,hm b ((e b).2 rfl),h3⟩)
  · obtain⟨h1,h2⟩:=(aN hk).1 h
    exact(aN hk).2 ⟨λk hk'=>⟨hm k hk',(h1 k hk').2⟩,h2⟩
theorem aW.iJ (h:aW c V A G none_ β a w) (hV:b8 V=true) {k:Nat} (hk:iK V β k):mine c k/\k<w.heap.size/\∀o v,w.cell? ⟨k,o,none⟩=some v->gK v:=by
  obtain⟨x,hx,hb⟩:=hk
  exact(h.var x hx (bG hV hx).1).blk hb
theorem gT (h:aW c V A G L β a w) {k o:Nat} (hm:mine c k):¬c.M0 k o:=λh0=>by
  have h1:=(h.old k o h0).1
  exact hm.elim (λh2=>by omega) h1.2
theorem aW.told (h:aW c V A G none_ β a w) (hV:b8 V=true) (hG:cW G=true):aP c.M0 (Told a V G β) w:=by
  intro w1 he
  have ho:∀k o,iK V β k->own c V none_ β k o:=λk o ⟨x,hx,hb⟩=>.inr ⟨x,hx,(bG hV hx).1,hb,by rw[(bG hV hx).2.1]; exact Nat.zero_le _⟩
  have hn:∀k,iK V β k->∀o,¬c.M0 k o:=λk hk o=>gT h (h.iJ hV hk).1
  have e1:Ext (own c V none_ β) w w1:=he.mono λk o _ hk=>.inl hk
  refine⟨λx hx=>?_,λx y g hx hy hne=>h.apart x y g hx hy (bG hV hx).1 (bG hV hy).1 hne,λe he'=>?_⟩
  · have hv:=(h.var x hx (bG hV hx).1).cfg (c':=Lk w1) λ_ _=>.inr trivial
    refine hv.keep rfl rfl (λg hg=>he.block g (h.iJ hV ⟨x,hx,hg⟩).2.1 (hn g ⟨x,hx,hg⟩)) he.size (λF hF=>(hF.ext e1).sub λk o _ hk=>ho k o hk) (λF hF=>?_) rfl
    have e2:Ext (minus (own c V none_ β) (β x.id)) w w1:=he.mono λk o _ hk=>⟨.inl hk,λhb=>hn k ⟨x,hx,hb⟩ o hk⟩
    exact(hF.ext e2).sub λk o _ hk=>⟨ho k o hk.1,hk.2⟩
  · obtain⟨h1,h2⟩:=tS hG he'
    exact((h.iU e he' h1 h2).ext e1).sub λk o _ hk=>ho k o hk
theorem Told.act (h:Told a V G β w) (hV:∀x,x∈V->sl a' x.slot=sl a x.slot) (hG:∀e,e∈G->sl a' e.slot=sl a e.slot):Told a' V G β w:=
  ⟨λx hx=>(h.var x hx).keep (hV x hx) rfl (λ_ _=>rfl) (Nat.le_refl _) (λ_ h=>h) (λ_ h=>h) rfl,h.apart,λe he=>by rw[hG e he]; exact h.iU e he⟩
theorem Told.inv (h:aP c.M0 (Told a V G β) w) (hV:b8 V=true) (hs:a.tmps.size=c.N) (hd:a.defers=[]) (hm:∀k,iK V β k->mine c k)
    (JM:cN c.gR c.w0 w) (hold:∀k o,c.M0 k o->(k<c.w0.heap.size/\¬c.gR k)/\∀v,w.cell? ⟨k,o,none⟩=some v->gK v):aW c V [] G none_ β a w:=by
  have h0:=h.out
  have hn:∀k,iK V β k->∀o,¬c.M0 k o:=λk hk o h0=>(hm k hk).elim (λh2=>by have:=(hold k o h0).1.1; omega) (hold k o h0).1.2
  have hz:∀k,iK V β k->k<w.heap.size:=λk ⟨x,hx,hb⟩=>((h0.var x hx).blk hb).2.1
  have hown:∀k o,own c V none_ β k o->c.M0 k o\/iK V β k:=λk o h=>h.elim .inl λ⟨x,hx,_,hb,_⟩=>.inr ⟨x,hx,hb⟩
  refine⟨hs,hd,JM,hold,λx hx _=>?_,λx y g hx hy _ _ hne=>h0.apart x y g hx hy hne,(λp hp=>by cases hp),λe he _ _=>?_⟩
  · rcases gQ x.kd with hk|⟨m,sz,hk⟩|hk
    · obtain⟨g,e,h1,h2⟩:=(bE hk).1 (h0.var x hx)
      obtain⟨cs,h3,h4,h5,_⟩:=h2.held
      have hb:iK V β g:=⟨x,hx,(e g).2 rfl⟩
      refine(bE hk).2 ⟨g,e,h1,hm g hb,cs,h3,h4,h5,?_⟩
      have key:aP c.M0 (aP (KR (iK V β)) λw=>cont none_ x.c0 x.st (·=g) w (ak x.agg cs)) w:=by
        intro w1 he
        obtain⟨g1,e1,_,k2⟩:=(bE hk).1 ((h w1 he).var x hx)
        obtain⟨cs1,k3,_,_,k6⟩:=k2.held
        have eg:g1=g:=((e1 g).1 ((e g).2 rfl)).symm
        subst eg
        rw[he.block g1 (hz g1 hb) (hn g1 hb),h3]at k3
        have ec:cs=cs1:=by simpa using k3
        subst ec
        exact k6
      exact(key.join hz).sub λk o _ hk=>hown k o hk
    · exact absurd hk ((bG hV hx).2.2 m sz)
    · obtain⟨h1,_⟩:=(aN hk).1 (h0.var x hx)
      refine(aN hk).2 ⟨λk hk'=>⟨hm k ⟨x,hx,hk'⟩,(h1 k hk').2⟩,?_⟩
      have key:aP c.M0 (aP (KR λk=>iK V β k/\¬β x.id k) λw=>cont none_ x.c0 x.st (β x.id) w (sl a x.slot)) w:=λw1 he=>((aN hk).1 ((h w1 he).var x hx)).2
      exact(key.join λk hk=>hz k hk.1).sub λk o _ hk=>(hown k o hk.1).elim .inl λh=>.inr ⟨h,hk.2⟩
  · have key:aP c.M0 (aP (KR (iK V β)) λw=>e.p w (sl a e.slot)) w:=λw1 hw=>(h w1 hw).iU e he
    exact(key.join hz).sub λk o _ hk=>hown k o hk
theorem aW.oF {d:Nat} {p:Pred} {v:Value} (h:aW c V [] G none_ β a w) (hd:d<c.N) (hV:∀x,x∈V->x.slot≠d) (hG:∀e,e∈G->e.slot≠d) (hp:aP (own c V none_ β) (λw=>p w v) w):aW c V [] (⟨none,none,d,p⟩::G) none_ β (a.put (some d) v) w:=by
  have sd:∀s,s≠d->sl (a.put (some d) v) s=sl a s:=λs hs=>cj λe=>hs (Option.some.inj e).symm
  refine⟨by rw[jl]; exact h.size,by rw[put_defers]; exact h.defers,h.below,h.old,λx hx hl=>(h.var x hx hl).keep (sd _ (hV x hx)) rfl (λ_ _=>rfl) (Nat.le_refl _) (λ_ h=>h) (λ_ h=>h) rfl,h.apart,(λp hp=>by cases hp),λe he ho hf=>?_⟩
  rcases List.mem_cons.1 he with rfl|he
  · show aP _ (λw=>p w (sl (a.put (some d) v) d)) w
    rw[iR (by rw[h.size]; exact hd)]
    exact hp
  · rw[sd _ (hG e he)]
    exact h.iU e he ho hf
abbrev dP (id s:Nat) (R:Rel):Vr:=⟨id,s,none,none,.obj,0,0,false,R,[]⟩
def jn (β:Nat->Nat->Prop) (id:Nat) (B':Nat->Prop) (i:Nat):Nat->Prop:=if i=id then B' else β i
variable {id:Nat} {B':Nat->Prop}
theorem oI {β:Nat->Nat->Prop}:jn β id B' id=B':=if_pos rfl
theorem ve {β:Nat->Nat->Prop} {i:Nat} (h:i≠id):jn β id B' i=β i:=if_neg h
theorem aW.move {s n0:Nat} {R R':Rel} (h:aW c V [] G none_ β a w) (hV:b8 V=true) (hG:cW G=true) (hk:V[n0]?=some (dP id s R)) (hu:∀(y:Vr) (n:Nat),V[n]?=some y->y.id=id->n=n0) (hle:cN (β id) w w')
    (hB:∀k,B' k->β id k\/w.heap.size<=k) (hno:∀k,B' k->k<w'.heap.size/\∀o v,w'.cell? ⟨k,o,none⟩=some v->gK v) (hR:aP (minus (own c V none_ β) (β id)) (λw=>R' B' w (sl a s)) w'):
    aW c (V.set n0 (dP id s R')) [] G none_ (jn β id B') a w':=by
  have hx:=List.mem_of_getElem? hk
  have yO:=(List.getElem?_eq_some_iff.1 hk).1
  have hmem:∀y,y∈V.set n0 (dP id s R')->y=dP id s R'\/(y∈V/\y.id≠id):=by
    intro y hy
    obtain⟨n,hn⟩:=List.mem_iff_getElem?.1 hy
    rw[List.getElem?_set]at hn
    by_cases he:n0=n
    · rw[if_pos he,if_pos yO]at hn
      exact .inl (Option.some.inj hn).symm
    · rw[if_neg he]at hn
      exact .inr ⟨List.mem_of_getElem? hn,λe=>he (hu y n hn e).symm⟩
  have jc:∀k,β id k->mine c k:=λk hk'=>(h.iJ hV ⟨_,hx,hk'⟩).1
  have Mn:cN c.gR c.w0 w':=⟨hle.os.trans h.below.os,hle.tape.trans h.below.tape,hle.output.trans h.below.output,Nat.le_trans h.below.size hle.size,λk hk' hn=>(hle.block k (Nat.lt_of_lt_of_le hk' h.below.size) λhb=>(jc k hb).elim (λh3=>by omega) hn).trans (h.below.block k hk' hn)⟩
  have JY:∀k,B' k->mine c k:=λk hk'=>(hB k hk').elim (jc k) λh1=>.inl (Nat.le_trans h.below.size h1)
  have ob:∀k o,β id k->own c V none_ β k o:=λk o hk'=>.inr ⟨_,hx,rfl,hk',Nat.zero_le _⟩
  have e1:Ext (own c V none_ β) w w':=Ext.AD hle λk o _ hk'=>ob k o hk'
  have hβ:∀y:Vr,y.id≠id->(jn β id B') y.id=β y.id:=λy hy=>ve hy
  have MO:(jn β id B') id=B':=oI
  have hown:∀k o,k<w.heap.size->own c (V.set n0 (dP id s R')) none_ (jn β id B') k o->own c V none_ β k o:=by
    rintro k o hk' (h1|⟨y,hy,h1,h2,h3⟩)
    · exact .inl h1
    · rcases hmem y hy with rfl|⟨o5,hid⟩
      · have h2:(jn β id B') id k:=h2
        rw[MO]at h2
        exact(hB k h2).elim (ob k o) λh4=>by omega
      · rw[hβ y hid]at h2
        exact .inr ⟨y,o5,(bG hV o5).1,h2,h3⟩
  refine⟨h.size,h.defers,Mn,λk o h0=>⟨(h.old k o h0).1,λv hv=>(h.old k o h0).2 v ?_⟩,λy hy _=>?_,λy y' g hy hy' _ _ hne=>?_,(λp hp=>by cases hp),λe he ho hf=>?_⟩
  · have hk':k<w.heap.size:=Nat.lt_of_lt_of_le (h.old k o h0).1.1 h.below.size
    rw[World.cell?_of_block (w:=w) (a:=⟨k,o,none⟩) (hle.block k hk' λhb=>gT h (jc k hb) h0)]at hv
    exact hv
  · rcases hmem y hy with rfl|⟨o5,hid⟩
    · refine(aN rfl).2 ?_
      show vP _ c none_ a w' _ ((jn β id B') id)
      rw[MO]
      refine⟨λk hk'=>⟨JY k hk',hno k hk'⟩,?_⟩
      refine hR.sub λk o _ hk'=>?_
      rcases hk'.1 with h1|⟨y,hy,h1,h2,h3⟩
      · exact⟨.inl h1,λhb=>gT h (jc k hb) h1⟩
      · rcases hmem y hy with rfl|⟨o5,hid⟩
        · have h2:(jn β id B') id k:=h2
          rw[MO]at h2
          exact absurd h2 hk'.2
        · rw[hβ y hid]at h2
          exact⟨.inr ⟨y,o5,(bG hV o5).1,h2,h3⟩,h.apart y _ k o5 hx (bG hV o5).1 rfl hid h2⟩
    · have hl:=(bG hV o5).1
      have Mv:∀g,β y.id g->¬β id g:=λg hg=>h.apart y _ g o5 hx hl rfl hid hg
      have hlt:∀g,β y.id g->g<w.heap.size:=λg hg=>(h.iJ hV ⟨y,o5,hg⟩).2.1
      refine(h.var y o5 hl).keep rfl (hβ y hid) (λg hg=>hle.block g (hlt g hg) (Mv g hg)) hle.size (λF hF=>hF.later e1 hown) (λF hF=>?_) rfl
      have e4:Ext (minus (own c V none_ β) (β y.id)) w w':=Ext.AD hle λk j _ hk'=>⟨ob k j hk',λhy'=>Mv k hy' hk'⟩
      exact hF.later e4 λk o hk' h=>⟨hown k o hk' h.1,h.2⟩
  · rcases hmem y hy with rfl|⟨o5,hid⟩<;>rcases hmem y' hy' with rfl|⟨DC,JQ⟩
    · exact absurd rfl hne
    · show(jn β id B') id g->_
      rw[MO,hβ y' JQ]
      intro h1 h2
      rcases hB g h1 with h3|h3
      · exact h.apart _ y' g hx DC rfl (bG hV DC).1 (λe=>JQ e.symm) h3 h2
      · have:=(h.iJ hV ⟨y',DC,h2⟩).2.1
        omega
    · show _->¬(jn β id B') id g
      rw[MO,hβ y hid]
      intro h2 h1
      rcases hB g h1 with h3|h3
      · exact h.apart y _ g o5 hx (bG hV o5).1 rfl hid h2 h3
      · have:=(h.iJ hV ⟨y,o5,h2⟩).2.1
        omega
    · rw[hβ y hid,hβ y' JQ]
      exact h.apart y y' g o5 DC (bG hV o5).1 (bG hV DC).1 hne
  · obtain⟨k1,k2⟩:=tS hG he
    exact(h.iU e he k1 k2).later e1 hown
end
end Wx

namespace Wx
open Go Go.RowKit
def Kq (l D:Nat) (r:Loop):Rel:=λB w _=>(∀k,B k↔k=l\/k=D)/\w.heap[l]?=some (.loop r)/\w.heap[D]?=some (.deferred (some []))/\D<l
abbrev dH (id l D:Nat) (r:Loop):Vr:=dP id id (Kq l D r)
def Fk (a:Act) (s:Nat):aV:=⟨none,none,s,bN (sl a s)⟩
def iW (B:Nat->Prop) (w:World):Prop:=∀k,B k->k<w.heap.size/\∀o v,w.cell? ⟨k,o,none⟩=some v->gK v
def fW (V:List Vr) (id n0:Nat):Bool:=V.zipIdx.all λq=>q.1.id != id||q.2==n0
theorem ia {V:List Vr} {id n0:Nat} (h:fW V id n0=true) (y:Vr) (n:Nat) (hn:V[n]?=some y) (hy:y.id=id):n=n0:=by
 unfold fW at h
 rw[List.all_eq_true]at h
 have h1:=h (y,n) (List.mem_iff_getElem?.2 ⟨n,by simp[List.getElem?_zipIdx,hn]⟩)
 simpa [hy] using h1
variable {w:World}
theorem gF {k o:Nat} {ob:Obj} (h:w.heap[k]?=some ob) (hc:ob.isCells=false) (v:Value):w.cell? ⟨k,o,none⟩≠some v:=by
 intro e
 obtain⟨o',h1,h2⟩:=cells_of_cell e
 rw[h]at h1
 injection h1 with h1
 rw[<-h1,hc]at h2
 cases h2
theorem o7 {B:Nat->Prop} {l:Nat} (o:Obj) (hl:B l):cN B w (w.putObj l o):=
 ⟨rfl,rfl,rfl,by rw[World.putObj_size]; exact Nat.le_refl _,λk _ hn=>World.putObj_heap_other λe=>hn (e▸hl)⟩
section
variable {P:Program} {Q:Exit->Act->World->Prop} {c:dg} {V:List Vr} {G:List aV} {β:Nat->Nat->Prop} {a a':Act} {w w':World}
theorem aW.Ng (h:aW c V [] G none_ β a w) (S:List Nat):aW c V [] (G++S.map (Fk a)) none_ β a w:=by
 refine⟨h.size,h.defers,h.below,h.old,h.var,h.apart,h.al,λe he ho hf=>?_⟩
 rcases List.mem_append.1 he with he|he
 ·exact h.iU e he ho hf
 ·obtain⟨s,_,rfl⟩:=List.mem_map.1 he
  exact aP.always rfl _
theorem aW.tG {G':List aV} (h:aW c V [] G none_ β a w) (hg:∀e,e∈G'->e∈G):aW c V [] G' none_ β a w:=
 ⟨h.size,h.defers,h.below,h.old,h.var,h.apart,h.al,λe he ho hf=>h.iU e (hg e he) ho hf⟩
variable {id n0 l D:Nat} {r:Loop}
theorem aW.Cl (h:aW c V [] G none_ β a w) (hk:V[n0]?=some (dH id l D r)):(∀k,β id k↔k=l\/k=D)/\w.heap[l]?=some (.loop r)/\w.heap[D]?=some (.deferred (some []))/\D<l:=
 ((aN rfl).1 (h.var _ (List.mem_of_getElem? hk) rfl)).2.out
theorem aW.record (r':Loop) (h:aW c V [] G none_ β a w) (hV:b8 V=true) (hG:cW G=true) (hk:V[n0]?=some (dH id l D r)) (hu:fW V id n0=true):∃β',aW c (V.set n0 (dH id l D r')) [] G none_ β' a (w.putObj l (.loop r')):=by
 obtain⟨h1,h2,h3,h4⟩:=h.Cl hk
 have hlt:l<w.heap.size:=(Array.getElem?_eq_some_iff.1 h2).1
 have hl2:(w.putObj l (.loop r')).heap[l]?=some (.loop r'):=World.putObj_heap_same hlt
 have JP:(w.putObj l (.loop r')).heap[D]?=some (.deferred (some [])):=(World.putObj_heap_other (by omega)).trans h3
 refine⟨_,h.move (B':=β id) (R':=Kq l D r') hV hG hk (ia hu) (o7 _ ((h1 l).2 (.inl rfl))) (λk hk'=>.inl hk') (λk hk'=>?_) ?_⟩
 ·rw[World.putObj_size]
  rcases (h1 k).1 hk' with rfl|rfl
  ·exact⟨hlt,λo v hv=>absurd hv (gF hl2 rfl v)⟩
  ·exact⟨by omega,λo v hv=>absurd hv (gF JP rfl v)⟩
 ·intro w'' he
  have hb:∀k,β id k->w''.heap[k]?=(w.putObj l (.loop r')).heap[k]?:=λk hk'=>he.block k (by rw[World.putObj_size]; rcases (h1 k).1 hk' with rfl|rfl<;>omega) λo ho=>ho.2 hk'
  exact⟨h1,(hb l ((h1 l).2 (.inl rfl))).trans hl2,(hb D ((h1 D).2 (.inr rfl))).trans JP,h4⟩
def Hp (l:Nat) (P:Program) (body:Code) (Q:Exit->Act->World->Prop) (a:Act) (w:World):Prop:=∃w2,(Instr.beginRound l).run P w=.ok () w2/\body.ww (some l) [] P Q a w2
theorem yq {body:Code} (hI:Inv c V [] G none_ a w) (n0:Nat) (hr:r.state=.ready) (h:∀w,Inv c (V.set n0 (dH id l D { r with state:=.busy })) [] G none_ a w->body.ww (some l) [] P Q a w)
  (hk:V[n0]?=some (dH id l D r):=by exact rfl) (hV:b8 V=true:=by kernel_rfl) (hG:cW G=true:=by kernel_rfl) (hu:fW V id n0=true:=by kernel_rfl):Hp l P body Q a w:=by
 obtain⟨β,hI⟩:=hI
 exact⟨_,run_beginRound (hI.Cl hk).2.1 hr,h _ (hI.record _ hV hG hk hu)⟩
theorem end_ {S:List Nat} {a0:Act} (jump:Option Code) (hI:Inv c V [] (G++S.map (Fk a0)) none_ a w) (hk:V[n0]?=some (dH id l D r)) (hV:b8 V=true) (hG:cW G=true) (hu:fW V id n0=true)
  (Rw:∀x,x∈V->x.slot∈S\/sl a x.slot=sl a0 x.slot) (Ic:∀e,e∈G->e.slot∈S):
  ∃β' w4,(Instr.endRound l jump).run P w=.ok (.bool jump.isNone) w4/\cN c.gR c.w0 w4/\(∀k,iK (V.set n0 (dH id l D { r with state:=if jump.isNone then .ready else .done,pending:=jump })) β' k->mine c k) /\
   iW (iK (V.set n0 (dH id l D { r with state:=if jump.isNone then .ready else .done,pending:=jump })) β') w4/\aP c.M0 (Told a0 (V.set n0 (dH id l D { r with state:=if jump.isNone then .ready else .done,pending:=jump })) G β') w4:=by
 obtain⟨β,hI⟩:=hI
 have heq:∀s,s∈S->sl a0 s=sl a s:=λs hs=>((hI.iU (Fk a0 s) (List.mem_append_right _ (List.mem_map.2 ⟨s,hs,rfl⟩)) rfl rfl).out:sl a s=sl a0 s).symm
 have Ai:=hI.tG (G':=G) λe he=>List.mem_append_left _ he
 obtain⟨β',h4⟩:=Ai.record { r with state:=if jump.isNone then .ready else .done,pending:=jump } hV hG hk hu
 have OY:b8 (V.set n0 (dH id l D { r with state:=if jump.isNone then .ready else .done,pending:=jump }))=true:=by
  unfold b8 at hV ⊢
  rw[List.all_eq_true]at hV ⊢
  intro x hx
  rcases List.mem_or_eq_of_mem_set hx with hx|rfl
  ·exact hV x hx
  ·rfl
 refine⟨β',_,run_endRound jump (Ai.Cl hk).2.1,h4.below,λk hk'=>(h4.iJ OY hk').1,λk hk'=>(h4.iJ OY hk').2,(h4.told OY hG).imp λw ht=>ht.act (λx hx=>?_) λe he=>heq _ (Ic e he)⟩
 rcases List.mem_or_eq_of_mem_set hx with hx|rfl
 ·exact(Rw x hx).elim (heq _) λh=>h.symm
 ·exact(Rw (dH id l D r) (List.mem_of_getElem? hk)).elim (heq _) λh=>h.symm
end
def uk (P:Program) (l:Nat) (vs:Array Value) (w:World) (R:Bool->World->Prop):Prop:=∀n,YieldAt (yH none) n P l vs w λe w'=>∃b,e=.returned (.bool b)/\R b w'
def CQ (P:Program) (g:FuncId) (lb:Array Value) (n:Nat) (p q:Nat->Pred) (cap:World->Prop):Prop:=
 ∀(σ:Type) (l:Nat) (M:Nat->Nat->Prop) (Bs:σ->Nat->Prop) (J:Nat->σ->World->Prop) (X:σ->World->Prop) (s0:σ) (w:World),da M w->(∀k,Bs s0 k->∀o,¬M k o)->iW (Bs s0) w->aP M (J 0 s0) w->aP (λk o=>M k o\/Bs s0 k) cap w ->
  (∀k s M' w' v0 v1,k<n->da M' w'->(∀k,Bs s k->∀o,¬M' k o)->iW (Bs s) w'->aP M' (J k s) w'->aP (λk o=>M' k o\/Bs s k) (λw=>p k w v0) w'->aP (λk o=>M' k o\/Bs s k) (λw=>q k w v1) w' ->
   uk P l #[v0,v1] w' λb w''=>∃s',cN (Bs s) w' w''/\(∀k,Bs s' k->Bs s k\/w'.heap.size<=k)/\iW (Bs s') w''/\aP M' (if b then J (k+1) s' else X s') w'') ->
  Calls P g (#[.func (.yield l) #[] #[]]++lb) w λe w'=>∃v s',e=.returned v/\cN (Bs s0) w w'/\(∀k,Bs s' k->Bs s0 k\/w.heap.size<=k)/\iW (Bs s') w'/\(aP M (J n s') w'\/aP M (X s') w')
def Er (P:Program) (n:Nat) (p q:Nat->Pred) (cap:Array Value->World->Prop):Pred:=λw v=>∃g lb,v=.func (.func g) #[] lb/\aM P g/\CQ P g lb n p q (cap lb)/\cap lb w
end Wx
