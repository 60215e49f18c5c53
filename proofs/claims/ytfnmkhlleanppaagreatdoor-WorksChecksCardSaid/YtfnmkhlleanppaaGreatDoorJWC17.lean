import Derived.Test.YtfnmkhlleanppaaGreatDoorJWC14
import Derived.Test.YtfnmkhlleanppaaGreatDoorJWC15
namespace Wx
open Go Go.RowKit
section
variable {P:Program} {ops:Array Oper} {ms:List Nat} {c:bQ} {V:List Vr} {A:List Al} {G:List aN} {i:Nat} {L:Nat->Bool} {β:Nat->Nat->Prop} {a:Act} {w:World} {o:Oper}{d:Nat} {x y z:Operand} {ty:TypeId} {pos:String} {aft:Array Edge}
theorem Inv.HX {Λ:Type} {C:Λ->Prop} {hd:Λ->Value} {Hl:Λ->List Bk} {id s n0 T n:Nat} {ag:Bool} (h:Inv c V [] G none_ a w) (hk:V[n0]?=some ⟨id,s,none,none,.obj,T,n,ag,λB w v=>∃l,C l/\v=hd l/\cn B w (Hl l),[]⟩) (hinj:∀l l',hd l=hd l'->l=l')
  (hu:(V.filter λy=>y.id==id).length=1):∃l,C l/\Inv c (V.set n0 (aZ id s (Hl l))) [] (⟨none,none,s,aG (hd l)⟩::G) none_ a w:=by
 obtain⟨β,h⟩:=h
 have hx:=List.mem_of_getElem? hk
 obtain⟨h1,h2⟩:=(aB rfl).1 (h.var _ hx rfl)
 obtain⟨l,k1,k2,k3⟩:=h2.out
 refine⟨l,k1,β,h.size,h.defers,h.below,h.old,?_,?_,(λp hp=>by cases hp),?_⟩
 all_goals
  have Eh:n0<V.length:=by
   rcases Nat.lt_or_ge n0 V.length with h'|h'
   ·exact h'
   ·rw[List.getElem?_eq_none h']at hk; cases hk
  have hsub:∀y,y∈V.set n0 (aZ id s (Hl l))->y=aZ id s (Hl l)\/(y∈V/\y.id≠id):=λy hy=>by
   obtain⟨j,hj⟩:=List.mem_iff_getElem?.1 hy
   by_cases G5:j=n0
   ·subst G5
    rw[List.getElem?_set_self Eh]at hj
    exact .inl (Option.some.inj hj).symm
   ·rw[List.getElem?_set_ne (Ne.symm G5)]at hj
    have eB:=List.mem_of_getElem? hj
    by_cases hid:y.id=id
    ·exfalso
     have e:=ck hu eB hx (by simpa using hid) (by simp)
     subst e
     have hge:((V.filter λy=>y.id==id).length)>=2:=by
      have lS:[(⟨id,s,none,none,.obj,T,n,ag,λB w v=>∃l,C l/\v=hd l/\cn B w (Hl l),[]⟩:Vr),⟨id,s,none,none,.obj,T,n,ag,λB w v=>∃l,C l/\v=hd l/\cn B w (Hl l),[]⟩].Sublist V:=by
       rcases Nat.lt_or_ge j n0 with hlt|hge
       ·exact kn hj hk hlt
       ·exact kn hk hj (by omega)
      have:=(lS.filter λy=>y.id==id).length_le
      simpa using this
     omega
    ·exact .inr ⟨eB,hid⟩
  have eo:∀k o,own c (V.set n0 (aZ id s (Hl l))) none_ β k o->own c V none_ β k o:=by
   rintro k o (h1|⟨y,hy,h1,h2,h3⟩)
   ·exact .inl h1
   ·rcases hsub y hy with rfl|⟨hy,_⟩
    ·exact .inr ⟨_,hx,rfl,h2,Nat.zero_le _⟩
    ·exact .inr ⟨y,hy,h1,h2,h3⟩
 ·intro y hy hl
  rcases hsub y hy with rfl|⟨hy,_⟩
  ·refine(aB rfl).2 ⟨h1,λw'' he=>?_⟩
   obtain⟨l',_,e2,e3⟩:=h2 w'' (he.mono' λk o hh=>⟨eo k o hh.1,hh.2⟩)
   have e2:sl a s=hd l':=e2
   have k2:sl a s=hd l:=k2
   have:l'=l:=hinj _ _ (e2.symm.trans k2)
   subst this
   exact e3
  ·exact(h.var y hy hl).keep rfl rfl (λ_ _=>rfl) (Nat.le_refl _) (λF hF=>hF.sub λk o _=>eo k o) (λF hF=>hF.sub λk o _ hh=>⟨eo k o hh.1,hh.2⟩) rfl
 ·intro y z g hy hz h1 h2 hne
  rcases hsub y hy with rfl|⟨hy,h5⟩<;>rcases hsub z hz with rfl|⟨hz,h7⟩
  ·exact absurd rfl hne
  ·have:=h.apart _ z g hx hz rfl h2 (λe=>h7 e.symm)
   exact this
  ·have:=h.apart y _ g hy hx h1 rfl h5
   exact this
  ·exact h.apart y z g hy hz h1 h2 hne
 ·intro e he ho hf
  rcases List.mem_cons.1 he with rfl|he
  ·exactλ_ _=>k2
  ·exact(h.ew e he ho hf).sub λk o _ hh=>eo k o hh
variable {fn:Func}
end
end Wx

namespace Wx
open Go Go.RowKit
section
variable {c:bQ} {V:List Vr} {G:List aN} {a:Act} {w:World}
end
section
variable {P:Program} {ops:Array Oper} {ms:List Nat} {c:bQ} {V:List Vr} {A:List Al} {G:List aN} {i:Nat} {d:Nat} {x y z u:Operand} {ty:TypeId} {pos:String} {aft:Array Edge}
end
end Wx

namespace Wx
open Go Go.RowKit
section
variable {P:Program} {ops:Array Oper} {ms:List Nat} {c:bQ} {V:List Vr} {A:List Al} {G:List aN} {i:Nat} {L:Nat->Bool} {β:Nat->Nat->Prop} {a:Act} {w:World} {o:Oper}{d:Nat} {x y z:Operand} {ty:TypeId} {pos:String} {aft:Array Edge}
end
end Wx

namespace Wx
open Go Go.RowKit
section
variable {P:Program} {ops:Array Oper} {ms:List Nat} {c:bQ} {V:List Vr} {A:List Al} {G:List aN} {i:Nat}{d:Nat} {x y z:Operand} {ty:TypeId} {pos:String} {aft:Array Edge}
theorem FI {T:TypeId} {sz n:Nat} {ag:Bool} {f:Nat->Pred} (m:Nat) (h:Has ms G i x (aI sz ag n f):=by exact hs) (hy:Has ms G i y (pI (m:Int)):=by exact hs) (hm:m<n:=by omega) (hp:Post G i (aI sz ag (n-m) λk=>f (m+k)):=by exact pt rfl) (ht:Il P T sz=true:=by kernel_rfl):OpOk P ops ms c V A G i ⟨some d,.slice T x (some y) none none,ty,pos,aft,none⟩:=by
 obtain⟨E,hE⟩:=tP ht
 exact bD rfl rfl rfl (.inl rfl) hp λL β a w hI hd=>by
  have k:=h.spec hI hd
  obtain⟨A',cap,ex,h1,h2,h3⟩:=k.out
  have ex:a.eval x=.slice A' n cap:=ex
  have ey:a.eval y=.int .i64 m:=(hy.spec hI hd).out
  obtain⟨b,o,rfl,_⟩:=h3 (by omega)
  refine⟨.slice (some ⟨b,o+m*sz,none⟩) (n-m) (cap-m),w,?_,Below.refl _ _,k.imp λw' ⟨A2,sQ,e2,h3,h4,h5⟩=>?_⟩
  ·show(do pure (Next.value (<-Instr.sliceAt T (a.eval x) (some (a.eval y)) none none))).run P w=_
   rw[ex,ey]
   have hr:(Instr.sliceAt T (.slice (some ⟨b,o,none⟩) n cap) (some (.int .i64 m)) none none).run P w=.ok (.slice (some ⟨b,o+m*sz,none⟩) (n-m) (cap-m)) w:=by
    have e1:(Instr.sliceBound (.int .i64 m) n .sliceB).run P w=.ok m w:=by
     have:=run_sliceBound (P:=P) w .i64 (m:Int) n .sliceB (by omega) (by omega)
     simpa using this
    have hne:¬cap=m:=by omega
    simp only[Instr.sliceAt,Sem.run_bind,run_underlying hE.under,Result.andThen_ok,Instr.slice,Instr.sliceBounds,Sem.run_pure]
    simp only[Option.isSome_none,Bool.false_eq_true,if_false,e1,Result.andThen_ok,hE.size w,hne,Option.map_some,Addr.add_mid]
   rw[Sem.run_bind,hr]
   rfl
  ·have e2:a.eval x=.slice A2 n sQ:=e2
   rw[ex]at e2
   injection e2 with e2 _ e4
   subst e2 e4
   obtain⟨b',o',hA,hf⟩:=h5 (by omega)
   injection hA with hA
   injection hA with hb ho
   subst hb ho
   refine⟨some ⟨b,o+m*sz,none⟩,cap-m,rfl,by omega,by omega,λ_=>⟨b,o+m*sz,rfl,λq hq=>?_⟩⟩
   obtain⟨cs,c1,c2,c3⟩:=hf (m+q) (by omega)
   refine⟨cs,c1,λj u hj=>?_,c3⟩
   have:=c2 j u hj
   rw[Nat.add_mul]at this
   rw[show o+m*sz+q*sz+j=o+(m*sz+q*sz)+j by omega]
   exact this
end
theorem gY {c:bQ} {V:List Vr} {G:List aN} {a:Act} {w:World} {i T n:Nat} {ag:Bool} {q:Pred} (hI:Inv c V [] G none_ a w) (k:Nat) (hk:V[k]?=some (Vz i i T n ag q)) (hu:((V.eraseIdx k).all λy=>y.id != i)=true):Inv c (V.eraseIdx k) [] (⟨none,none,i,dM n ag q⟩::G) none_ a w:=by
 obtain⟨β,h⟩:=hI
 have hx:=List.mem_of_getElem? hk
 have hsub:∀y,y∈V.eraseIdx k->y∈V/\y.id≠i:=λy hy=>⟨List.mem_of_mem_eraseIdx hy,by
  have:=List.all_eq_true.1 hu y hy
  simpa using this⟩
 obtain⟨g,h1,h2,h3⟩:=(aY (by rfl)).1 (h.var _ hx rfl)
 have h1:∀k,β i k↔k=g:=h1
 have h2:sl a i=.pointer (some ⟨g,0,none⟩):=h2
 obtain⟨cs,k1,k2,k3,k4⟩:=h3.held
 have k4:aJ (own c V none_ β) (λw=>q w (aq ag cs)) w:=k4
 have k2:cs.length=n:=k2
 have hnew:mine c g:=h3.new
 have IJ:g<w.heap.size:=(Array.getElem?_eq_some_iff.1 k1).1
 have eo:∀k' o,own c (V.eraseIdx k) none_ β k' o->own c V none_ β k' o/\k'≠g:=by
  rintro k' o (hM|⟨y,hy,q1,q2,q3⟩)
  ·refine⟨.inl hM,λhb=>?_⟩
   have:=(h.old k' o hM).1
   rw[hb]at this
   exact hnew.elim (λh'=>absurd this.1 (Nat.not_lt.2 h')) (λh'=>this.2 h')
  ·obtain⟨hy,hid⟩:=hsub y hy
   exact⟨.inr ⟨y,hy,q1,q2,q3⟩,λhb=>h.apart y _ k' hy hx q1 rfl hid q2 ((h1 k').2 hb)⟩
 refine⟨β,h.size,h.defers,h.below,h.old,λy hy hl=>(h.var y (hsub y hy).1 hl).keep rfl rfl (λ_ _=>rfl) (Nat.le_refl _) (λF hF=>hF.sub λk o _ hh=>(eo k o hh).1) (λF hF=>hF.sub λk o _ hh=>⟨(eo k o hh.1).1,hh.2⟩) rfl,λy z g hy hz=>h.apart y z g (hsub y hy).1 (hsub z hz).1,(λp hp=>by cases hp),λe he ho hf'=>?_⟩
 rcases List.mem_cons.1 he with rfl|he
 ·intro w' hw'
  show dM n ag q w' (sl a i)
  rw[h2]
  have hb:w'.heap[g]?=some (.cells cs.toArray T (0,0)):=(hw'.block g IJ λo hh=>(eo g o hh).2 rfl).trans k1
  refine⟨g,0,cs,rfl,k2,λj v hj=>?_,k4 w' (hw'.mono λk o _ hh=>(eo k o hh).1)⟩
  rw[Nat.zero_add]
  simp only[World.cell?,hb]
  simpa using hj
 ·exact(h.ew e he ho hf').sub λk o _ hh=>(eo k o hh).1
end Wx

namespace Wx
open Go Go.RowKit
section
variable {M M':Nat->Nat->Prop} {B:Nat->Prop} {F:World->Prop} {w w':World}
abbrev FO (B:Nat->Prop):Nat->Nat->Prop:=λk _=>B k
theorem aJ.later (h:aJ M F w) (he:Ext M w w') (hm:∀k o,k<w.heap.size->M' k o->M k o):aJ M' F w':=λw'' h'=>h w''
  ⟨Nat.le_trans he.size h'.size,λk hk hn=>(h'.block k (Nat.lt_of_lt_of_le hk he.size) λo ho=>hn o (hm k o hk ho)).trans (he.block k hk hn),
   λk o v hn hc=>h'.cell k o v (λho=>hn (hm k o (World.block_lt_of_cell? w _ hc) ho)) (he.cell k o v hn hc)⟩
theorem aJ.join (h:aJ M (aJ (FO B) F) w) (hB:∀k,B k->k<w.heap.size):aJ (λk o=>M k o\/B k) F w:=by
  intro w'' he
  classical
  let w':World:={ w'' with heap:=w''.heap.mapIdx λi o=>if B i then(w.heap[i]?).getD o else o }
  have hs:w'.heap.size=w''.heap.size:=by simp[w']
  have hg:∀k,w'.heap[k]?=if B k then w.heap[k]? else w''.heap[k]?:=by
    intro k
    show(w''.heap.mapIdx _)[k]?=_
    rw[Array.getElem?_mapIdx]
    by_cases hb:B k
    · have h1:=hB k hb
      have h2:k<w''.heap.size:=Nat.lt_of_lt_of_le h1 he.size
      simp[h1,h2,hb]
    · rw[if_neg hb]
      cases w''.heap[k]?<;>simp[hb]
  refine h w' ⟨by rw[hs]; exact he.size,?_,?_⟩ w'' ⟨by rw[hs]; exact Nat.le_refl _,?_,?_⟩
  · intro k hk hn
    rw[hg]
    by_cases hb:B k
    · rw[if_pos hb]
    · rw[if_neg hb]; exact he.block k hk λo ho=>ho.elim (hn o) hb
  · intro k o v hn hc
    by_cases hb:B k
    · rw[World.cell?_of_block (w:=w) (a:=⟨k,o,none⟩) (by rw[hg,if_pos hb])]; exact hc
    · rw[World.cell?_of_block (w:=w'') (a:=⟨k,o,none⟩) (by rw[hg,if_neg hb])]; exact he.cell k o v (λho=>ho.elim hn hb) hc
  · intro k _ hn
    rw[hg,if_neg (hn 0)]
  · intro k o v hn hc
    rw[World.cell?_of_block (w:=w') (a:=⟨k,o,none⟩) (by rw[hg,if_neg hn])]
    exact hc
end
def Kd.tn:Kd->Bool
  |.grow _ _=>true
  |_=>false
def bE (V:List Vr):Bool:=V.all λx=>x.born.isNone&&(x.dead.isNone&&!x.kd.tn)
def bT (G:List aN):Bool:=G.all λe=>e.tag.isNone&&e.till.isNone
theorem bL {V:List Vr} (h:bE V=true) {x:Vr} (hx:x∈V):live none_ x=true/\x.lo=0/\∀m sz,x.kd≠.grow m sz:=by
  unfold bE at h
  rw[List.all_eq_true]at h
  have h1:=h x hx
  simp only[Bool.and_eq_true,Option.isNone_iff_eq_none]at h1
  refine⟨by unfold live; rw[h1.1,h1.2.1]; rfl,?_,λm sz e=>by rw[e]at h1; simp[Kd.tn]at h1⟩
  unfold Vr.lo
  cases hk:x.kd with
  |grow m sz=>rw[hk]at h1; simp[Kd.tn]at h1
  |_=>rfl
theorem oG {G:List aN} (h:bT G=true) {e:aN} (he:e∈G):on none_ e.tag=true/\off none_ e.till=true:=by
  unfold bT at h
  rw[List.all_eq_true]at h
  have h1:=h e he
  simp only[Bool.and_eq_true,Option.isNone_iff_eq_none]at h1
  rw[h1.1,h1.2]
  exact⟨rfl,rfl⟩
def gh (V:List Vr) (β:Nat->Nat->Prop) (k:Nat):Prop:=∃x,x∈V/\β x.id k
def Gl (w:World):bQ:=⟨0,w,λ_ _=>False,λ_=>True⟩
structure Told (a:Act) (V:List Vr) (G:List aN) (β:Nat->Nat->Prop) (w:World):Prop where
  var:∀x,x∈V->iq (FO (gh V β)) (Gl w) none_ β a w x
  apart:∀x y g,x∈V->y∈V->x.id≠y.id->β x.id g->¬β y.id g
  ew:∀e,e∈G->aJ (FO (gh V β)) (λw=>e.p w (sl a e.slot)) w
section
variable {c c':bQ} {V:List Vr} {A:List Al} {G:List aN} {L:Nat->Bool} {β:Nat->Nat->Prop} {a a':Act} {w w':World} {M:Nat->Nat->Prop}
theorem iq.cfg {x:Vr} (h:iq M c L β a w x) (hm:∀k,β x.id k->mine c' k):iq M c' L β a w x:=by
  rcases fL x.kd with hk|⟨m,sz,hk⟩|hk
  · obtain⟨g,e,h1,h2⟩:=(aY hk).1 h
    exact(aY hk).2 ⟨g,e,h1,hm g ((e g).2 rfl),h2.held⟩
  · rcases (bw hk).1 h with h1|⟨b,cap,cur,e,h1,h2,h3⟩
    · exact(bw hk).2 (.inl h1)
    · exact(bw hk).2 (.inr ⟨b,cap,cur,e,h1,hm b ((e b).2 rfl),h3⟩)
  · obtain⟨h1,h2⟩:=(aB hk).1 h
    exact(aB hk).2 ⟨λk hk'=>⟨hm k hk',(h1 k hk').2⟩,h2⟩
theorem aQ.gg (h:aQ c V A G none_ β a w) (hV:bE V=true) {k:Nat} (hk:gh V β k):mine c k/\k<w.heap.size/\∀o v,w.cell? ⟨k,o,none⟩=some v->dB v:=by
  obtain⟨x,hx,hb⟩:=hk
  exact(h.var x hx (bL hV hx).1).blk hb
theorem eX (h:aQ c V A G L β a w) {k o:Nat} (hm:mine c k):¬c.M0 k o:=λh0=>by
  have h1:=(h.old k o h0).1
  exact hm.elim (λh2=>by omega) h1.2
theorem aQ.told (h:aQ c V A G none_ β a w) (hV:bE V=true) (hG:bT G=true):aJ c.M0 (Told a V G β) w:=by
  intro w1 he
  have ho:∀k o,gh V β k->own c V none_ β k o:=λk o ⟨x,hx,hb⟩=>.inr ⟨x,hx,(bL hV hx).1,hb,by rw[(bL hV hx).2.1]; exact Nat.zero_le _⟩
  have hn:∀k,gh V β k->∀o,¬c.M0 k o:=λk hk o=>eX h (h.gg hV hk).1
  have e1:Ext (own c V none_ β) w w1:=he.mono λk o _ hk=>.inl hk
  refine⟨λx hx=>?_,λx y g hx hy hne=>h.apart x y g hx hy (bL hV hx).1 (bL hV hy).1 hne,λe he'=>?_⟩
  · have hv:=(h.var x hx (bL hV hx).1).cfg (c':=Gl w1) λ_ _=>.inr trivial
    refine hv.keep rfl rfl (λg hg=>he.block g (h.gg hV ⟨x,hx,hg⟩).2.1 (hn g ⟨x,hx,hg⟩)) he.size (λF hF=>(hF.ext e1).sub λk o _ hk=>ho k o hk) (λF hF=>?_) rfl
    have e2:Ext (minus (own c V none_ β) (β x.id)) w w1:=he.mono λk o _ hk=>⟨.inl hk,λhb=>hn k ⟨x,hx,hb⟩ o hk⟩
    exact(hF.ext e2).sub λk o _ hk=>⟨ho k o hk.1,hk.2⟩
  · obtain⟨h1,h2⟩:=oG hG he'
    exact((h.ew e he' h1 h2).ext e1).sub λk o _ hk=>ho k o hk
theorem Told.act (h:Told a V G β w) (hV:∀x,x∈V->sl a' x.slot=sl a x.slot) (hG:∀e,e∈G->sl a' e.slot=sl a e.slot):Told a' V G β w:=
  ⟨λx hx=>(h.var x hx).keep (hV x hx) rfl (λ_ _=>rfl) (Nat.le_refl _) (λ_ h=>h) (λ_ h=>h) rfl,h.apart,λe he=>by rw[hG e he]; exact h.ew e he⟩
theorem Told.inv (h:aJ c.M0 (Told a V G β) w) (hV:bE V=true) (hs:a.tmps.size=c.N) (hd:a.defers=[]) (hm:∀k,gh V β k->mine c k)
    (Eb:bX c.dc c.w0 w) (hold:∀k o,c.M0 k o->(k<c.w0.heap.size/\¬c.dc k)/\∀v,w.cell? ⟨k,o,none⟩=some v->dB v):aQ c V [] G none_ β a w:=by
  have h0:=h.out
  have hn:∀k,gh V β k->∀o,¬c.M0 k o:=λk hk o h0=>(hm k hk).elim (λh2=>by have:=(hold k o h0).1.1; omega) (hold k o h0).1.2
  have hz:∀k,gh V β k->k<w.heap.size:=λk ⟨x,hx,hb⟩=>((h0.var x hx).blk hb).2.1
  have hown:∀k o,own c V none_ β k o->c.M0 k o\/gh V β k:=λk o h=>h.elim .inl λ⟨x,hx,_,hb,_⟩=>.inr ⟨x,hx,hb⟩
  refine⟨hs,hd,Eb,hold,λx hx _=>?_,λx y g hx hy _ _ hne=>h0.apart x y g hx hy hne,(λp hp=>by cases hp),λe he _ _=>?_⟩
  · rcases fL x.kd with hk|⟨m,sz,hk⟩|hk
    · obtain⟨g,e,h1,h2⟩:=(aY hk).1 (h0.var x hx)
      obtain⟨cs,h3,h4,h5,_⟩:=h2.held
      have hb:gh V β g:=⟨x,hx,(e g).2 rfl⟩
      refine(aY hk).2 ⟨g,e,h1,hm g hb,cs,h3,h4,h5,?_⟩
      have key:aJ c.M0 (aJ (FO (gh V β)) λw=>cont none_ x.c0 x.st (·=g) w (aq x.agg cs)) w:=by
        intro w1 he
        obtain⟨g1,e1,_,k2⟩:=(aY hk).1 ((h w1 he).var x hx)
        obtain⟨cs1,k3,_,_,k6⟩:=k2.held
        have eg:g1=g:=((e1 g).1 ((e g).2 rfl)).symm
        subst eg
        rw[he.block g1 (hz g1 hb) (hn g1 hb),h3]at k3
        have ec:cs=cs1:=by simpa using k3
        subst ec
        exact k6
      exact(key.join hz).sub λk o _ hk=>hown k o hk
    · exact absurd hk ((bL hV hx).2.2 m sz)
    · obtain⟨h1,_⟩:=(aB hk).1 (h0.var x hx)
      refine(aB hk).2 ⟨λk hk'=>⟨hm k ⟨x,hx,hk'⟩,(h1 k hk').2⟩,?_⟩
      have key:aJ c.M0 (aJ (FO λk=>gh V β k/\¬β x.id k) λw=>cont none_ x.c0 x.st (β x.id) w (sl a x.slot)) w:=λw1 he=>((aB hk).1 ((h w1 he).var x hx)).2
      exact(key.join λk hk=>hz k hk.1).sub λk o _ hk=>(hown k o hk.1).elim .inl λh=>.inr ⟨h,hk.2⟩
  · have key:aJ c.M0 (aJ (FO (gh V β)) λw=>e.p w (sl a e.slot)) w:=λw1 hw=>(h w1 hw).ew e he
    exact(key.join hz).sub λk o _ hk=>hown k o hk
theorem aQ.qo {d:Nat} {p:Pred} {v:Value} (h:aQ c V [] G none_ β a w) (hd:d<c.N) (hV:∀x,x∈V->x.slot≠d) (hG:∀e,e∈G->e.slot≠d) (hp:aJ (own c V none_ β) (λw=>p w v) w):aQ c V [] (⟨none,none,d,p⟩::G) none_ β (a.put (some d) v) w:=by
  have sd:∀s,s≠d->sl (a.put (some d) v) s=sl a s:=λs hs=>bG λe=>hs (Option.some.inj e).symm
  refine⟨by rw[fc]; exact h.size,by rw[put_defers]; exact h.defers,h.below,h.old,λx hx hl=>(h.var x hx hl).keep (sd _ (hV x hx)) rfl (λ_ _=>rfl) (Nat.le_refl _) (λ_ h=>h) (λ_ h=>h) rfl,h.apart,(λp hp=>by cases hp),λe he ho hf=>?_⟩
  rcases List.mem_cons.1 he with rfl|he
  · show aJ _ (λw=>p w (sl (a.put (some d) v) d)) w
    rw[dr (by rw[h.size]; exact hd)]
    exact hp
  · rw[sd _ (hG e he)]
    exact h.ew e he ho hf
abbrev cr (id s:Nat) (R:Rel):Vr:=⟨id,s,none,none,.obj,0,0,false,R,[]⟩
def gW (β:Nat->Nat->Prop) (id:Nat) (B':Nat->Prop) (i:Nat):Nat->Prop:=if i=id then B' else β i
variable {id:Nat} {B':Nat->Prop}
theorem gJ {β:Nat->Nat->Prop}:gW β id B' id=B':=if_pos rfl
theorem kr {β:Nat->Nat->Prop} {i:Nat} (h:i≠id):gW β id B' i=β i:=if_neg h
theorem aQ.move {s n0:Nat} {R R':Rel} (h:aQ c V [] G none_ β a w) (hV:bE V=true) (hG:bT G=true) (hk:V[n0]?=some (cr id s R)) (hu:∀(y:Vr) (n:Nat),V[n]?=some y->y.id=id->n=n0) (hle:bX (β id) w w')
    (hB:∀k,B' k->β id k\/w.heap.size<=k) (hno:∀k,B' k->k<w'.heap.size/\∀o v,w'.cell? ⟨k,o,none⟩=some v->dB v) (hR:aJ (minus (own c V none_ β) (β id)) (λw=>R' B' w (sl a s)) w'):
    aQ c (V.set n0 (cr id s R')) [] G none_ (gW β id B') a w':=by
  have hx:=List.mem_of_getElem? hk
  have hn0:=(List.getElem?_eq_some_iff.1 hk).1
  have hmem:∀y,y∈V.set n0 (cr id s R')->y=cr id s R'\/(y∈V/\y.id≠id):=by
    intro y hy
    obtain⟨n,hn⟩:=List.mem_iff_getElem?.1 hy
    rw[List.getElem?_set]at hn
    by_cases he:n0=n
    · rw[if_pos he,if_pos hn0]at hn
      exact .inl (Option.some.inj hn).symm
    · rw[if_neg he]at hn
      exact .inr ⟨List.mem_of_getElem? hn,λe=>he (hu y n hn e).symm⟩
  have dD:∀k,β id k->mine c k:=λk hk'=>(h.gg hV ⟨_,hx,hk'⟩).1
  have G6:bX c.dc c.w0 w':=⟨hle.os.trans h.below.os,hle.tape.trans h.below.tape,hle.output.trans h.below.output,Nat.le_trans h.below.size hle.size,λk hk' hn=>(hle.block k (Nat.lt_of_lt_of_le hk' h.below.size) λhb=>(dD k hb).elim (λh3=>by omega) hn).trans (h.below.block k hk' hn)⟩
  have Ei:∀k,B' k->mine c k:=λk hk'=>(hB k hk').elim (dD k) λh1=>.inl (Nat.le_trans h.below.size h1)
  have ob:∀k o,β id k->own c V none_ β k o:=λk o hk'=>.inr ⟨_,hx,rfl,hk',Nat.zero_le _⟩
  have e1:Ext (own c V none_ β) w w':=Ext.ke hle λk o _ hk'=>ob k o hk'
  have hβ:∀y:Vr,y.id≠id->(gW β id B') y.id=β y.id:=λy hy=>kr hy
  have Hw:(gW β id B') id=B':=gJ
  have hown:∀k o,k<w.heap.size->own c (V.set n0 (cr id s R')) none_ (gW β id B') k o->own c V none_ β k o:=by
    rintro k o hk' (h1|⟨y,hy,h1,h2,h3⟩)
    · exact .inl h1
    · rcases hmem y hy with rfl|⟨eB,hid⟩
      · have h2:(gW β id B') id k:=h2
        rw[Hw]at h2
        exact(hB k h2).elim (ob k o) λh4=>by omega
      · rw[hβ y hid]at h2
        exact .inr ⟨y,eB,(bL hV eB).1,h2,h3⟩
  refine⟨h.size,h.defers,G6,λk o h0=>⟨(h.old k o h0).1,λv hv=>(h.old k o h0).2 v ?_⟩,λy hy _=>?_,λy y' g hy hy' _ _ hne=>?_,(λp hp=>by cases hp),λe he ho hf=>?_⟩
  · have hk':k<w.heap.size:=Nat.lt_of_lt_of_le (h.old k o h0).1.1 h.below.size
    rw[World.cell?_of_block (w:=w) (a:=⟨k,o,none⟩) (hle.block k hk' λhb=>eX h (dD k hb) h0)]at hv
    exact hv
  · rcases hmem y hy with rfl|⟨eB,hid⟩
    · refine(aB rfl).2 ?_
      show oc _ c none_ a w' _ ((gW β id B') id)
      rw[Hw]
      refine⟨λk hk'=>⟨Ei k hk',hno k hk'⟩,?_⟩
      refine hR.sub λk o _ hk'=>?_
      rcases hk'.1 with h1|⟨y,hy,h1,h2,h3⟩
      · exact⟨.inl h1,λhb=>eX h (dD k hb) h1⟩
      · rcases hmem y hy with rfl|⟨eB,hid⟩
        · have h2:(gW β id B') id k:=h2
          rw[Hw]at h2
          exact absurd h2 hk'.2
        · rw[hβ y hid]at h2
          exact⟨.inr ⟨y,eB,(bL hV eB).1,h2,h3⟩,h.apart y _ k eB hx (bL hV eB).1 rfl hid h2⟩
    · have hl:=(bL hV eB).1
      have ye:∀g,β y.id g->¬β id g:=λg hg=>h.apart y _ g eB hx hl rfl hid hg
      have hlt:∀g,β y.id g->g<w.heap.size:=λg hg=>(h.gg hV ⟨y,eB,hg⟩).2.1
      refine(h.var y eB hl).keep rfl (hβ y hid) (λg hg=>hle.block g (hlt g hg) (ye g hg)) hle.size (λF hF=>hF.later e1 hown) (λF hF=>?_) rfl
      have e4:Ext (minus (own c V none_ β) (β y.id)) w w':=Ext.ke hle λk j _ hk'=>⟨ob k j hk',λhy'=>ye k hy' hk'⟩
      exact hF.later e4 λk o hk' h=>⟨hown k o hk' h.1,h.2⟩
  · rcases hmem y hy with rfl|⟨eB,hid⟩<;>rcases hmem y' hy' with rfl|⟨yo,Ef⟩
    · exact absurd rfl hne
    · show(gW β id B') id g->_
      rw[Hw,hβ y' Ef]
      intro h1 h2
      rcases hB g h1 with h3|h3
      · exact h.apart _ y' g hx yo rfl (bL hV yo).1 (λe=>Ef e.symm) h3 h2
      · have:=(h.gg hV ⟨y',yo,h2⟩).2.1
        omega
    · show _->¬(gW β id B') id g
      rw[Hw,hβ y hid]
      intro h2 h1
      rcases hB g h1 with h3|h3
      · exact h.apart y _ g eB hx (bL hV eB).1 rfl hid h2 h3
      · have:=(h.gg hV ⟨y,eB,h2⟩).2.1
        omega
    · rw[hβ y hid,hβ y' Ef]
      exact h.apart y y' g eB yo (bL hV eB).1 (bL hV yo).1 hne
  · obtain⟨k1,k2⟩:=oG hG he
    exact(h.ew e he k1 k2).later e1 hown
end
end Wx
