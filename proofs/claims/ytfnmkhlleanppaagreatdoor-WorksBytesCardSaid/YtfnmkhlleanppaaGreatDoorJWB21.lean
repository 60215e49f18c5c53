import Derived.Test.YtfnmkhlleanppaaGreatDoorJWB20
namespace Wx
open Go Go.RowKit
section
variable {P:Program} {ops:Array Oper} {ms:List Nat} {c:bJ} {V:List Vr} {A:List Al} {G:List aI} {i:Nat}{d:Nat} {x y z:Operand} {ty:TypeId} {pos:String} {au:Array Edge}{T:TypeId} {sz n:Nat} {ag:Bool} {f:Nat->Pred}
theorem GH (m:Nat) (h:Has ms G i x (ax sz ag n f):=by exact hs) (hy:Has ms G i y (pI (m:Int)):=by exact hs) (hm:m<=n:=by omega) (hp:Post G i (ax sz ag m f):=by exact pt rfl) (ht:xU P T sz=true:=by kernel_rfl):OpOk P ops ms c V A G i ⟨some d,.slice T x none (some y) none,ty,pos,au,none⟩:=by
 obtain⟨E,hE⟩:=gZ ht
 exact kK h hy hE hm hp
theorem A9 (m:Nat) (h:Has ms G i x (ax sz ag n f):=by exact hs) (hy:Has ms G i y (pI (m:Int)):=by exact hs) (hm:m<n:=by omega) (hp:Post G i (ax sz ag (n-m) λk=>f (m+k)):=by exact pt rfl) (ht:xU P T sz=true:=by kernel_rfl):OpOk P ops ms c V A G i ⟨some d,.slice T x (some y) none none,ty,pos,au,none⟩:=by
 obtain⟨E,hE⟩:=gZ ht
 exact bk rfl rfl rfl (.inl rfl) hp λL β a w hI hd=>by
  have k:=h.spec hI hd
  obtain⟨A',cap,ex,h1,h2,h3⟩:=k.out
  have ex:a.eval x=.slice A' n cap:=ex
  have ey:a.eval y=.int .i64 m:=(hy.spec hI hd).out
  obtain⟨b,o,rfl,_⟩:=h3 (by omega)
  refine⟨.slice (some ⟨b,o+m*sz,none⟩) (n-m) (cap-m),w,?_,Below.refl _ _,k.imp λw' ⟨A2,nY,e2,h3,h4,h5⟩=>?_⟩
  ·show(do pure (Next.value (<-Instr.sliceAt T (a.eval x) (some (a.eval y)) none none))).run P w=_
   rw[ex,ey]
   have hr:(Instr.sliceAt T (.slice (some ⟨b,o,none⟩) n cap) (some (.int .i64 m)) none none).run P w=.ok (.slice (some ⟨b,o+m*sz,none⟩) (n-m) (cap-m)) w:=by
    have e1:(Instr.sliceBound (.int .i64 m) n .sliceB).run P w=.ok m w:=by
     have:=run_sliceBound (P:=P) w .i64 (m:Int) n .sliceB (by omega) (by omega)
     simpa using this
    have hne:¬cap=m:=by omega
    simp only[Instr.sliceAt,Sem.run_bind,run_underlying hE.under,Result.andThen_ok,Instr.slice,Instr.sliceBounds,Sem.run_pure]
    simp only[Option.isSome_none,Bool.false_eq_true,if_false,e1,Result.andThen_ok,hE.size w,hne,Option.map_some,Addr.add_mid]
   rw[Sem.run_bind,hr]
   rfl
  ·have e2:a.eval x=.slice A2 n nY:=e2
   rw[ex]at e2
   injection e2 with e2 _ e4
   subst e2 e4
   obtain⟨b',o',hA,hf⟩:=h5 (by omega)
   injection hA with hA
   injection hA with hb ho
   subst hb ho
   refine⟨some ⟨b,o+m*sz,none⟩,cap-m,rfl,by omega,by omega,λ_=>⟨b,o+m*sz,rfl,λq hq=>?_⟩⟩
   obtain⟨cs,c1,c2,c3⟩:=hf (m+q) (by omega)
   refine⟨cs,c1,λj u hj=>?_,c3⟩
   have:=c2 j u hj
   rw[Nat.add_mul]at this
   rw[show o+m*sz+q*sz+j=o+(m*sz+q*sz)+j by omega]
   exact this
end
theorem ic {c:bJ} {V:List Vr} {G:List aI} {a:Act} {w:World} {i T n:Nat} {ag:Bool} {q:Pred} (hI:Inv c V [] G none_ a w) (k:Nat) (hk:V[k]?=some (Vz i i T n ag q)) (hu:((V.eraseIdx k).all λy=>y.id != i)=true):Inv c (V.eraseIdx k) [] (⟨none,none,i,cZ n ag q⟩::G) none_ a w:=by
 obtain⟨β,h⟩:=hI
 have hx:=List.mem_of_getElem? hk
 have hsub:∀y,y∈V.eraseIdx k->y∈V/\y.id≠i:=λy hy=>⟨List.mem_of_mem_eraseIdx hy,by
  have:=List.all_eq_true.1 hu y hy
  simpa using this⟩
 obtain⟨g,h1,h2,h3⟩:=(bz (by rfl)).1 (h.var _ hx rfl)
 have h1:∀k,β i k↔k=g:=h1
 have h2:sl a i=.pointer (some ⟨g,0,none⟩):=h2
 obtain⟨cs,k1,k2,k3,k4⟩:=h3.held
 have k4:aK (own c V none_ β) (λw=>q w (ah ag cs)) w:=k4
 have k2:cs.length=n:=k2
 have hnew:mine c g:=h3.new
 have De:g<w.heap.size:=(Array.getElem?_eq_some_iff.1 k1).1
 have eo:∀k' o,own c (V.eraseIdx k) none_ β k' o->own c V none_ β k' o/\k'≠g:=by
  rintro k' o (hM|⟨y,hy,q1,q2,q3⟩)
  ·refine⟨.inl hM,λhb=>?_⟩
   have:=(h.old k' o hM).1
   rw[hb]at this
   exact hnew.elim (λh'=>absurd this.1 (Nat.not_lt.2 h')) (λh'=>this.2 h')
  ·obtain⟨hy,hid⟩:=hsub y hy
   exact⟨.inr ⟨y,hy,q1,q2,q3⟩,λhb=>h.apart y _ k' hy hx q1 rfl hid q2 ((h1 k').2 hb)⟩
 refine⟨β,h.size,h.defers,h.below,h.old,λy hy hl=>(h.var y (hsub y hy).1 hl).keep rfl rfl (λ_ _=>rfl) (Nat.le_refl _) (λF hF=>hF.sub λk o _ hh=>(eo k o hh).1) (λF hF=>hF.sub λk o _ hh=>⟨(eo k o hh.1).1,hh.2⟩) rfl,λy z g hy hz=>h.apart y z g (hsub y hy).1 (hsub z hz).1,(λp hp=>by cases hp),λe he ho hf'=>?_⟩
 rcases List.mem_cons.1 he with rfl|he
 ·intro w' hw'
  show cZ n ag q w' (sl a i)
  rw[h2]
  have hb:w'.heap[g]?=some (.cells cs.toArray T (0,0)):=(hw'.block g De λo hh=>(eo g o hh).2 rfl).trans k1
  refine⟨g,0,cs,rfl,k2,λj v hj=>?_,k4 w' (hw'.mono λk o _ hh=>(eo k o hh).1)⟩
  rw[Nat.zero_add]
  simp only[World.cell?,hb]
  simpa using hj
 ·exact(h.gK e he ho hf').sub λk o _ hh=>(eo k o hh).1
end Wx

namespace Wx
open Go Go.RowKit
section
variable {M M':Nat->Nat->Prop} {B:Nat->Prop} {F:World->Prop} {w w':World}
theorem aK.later (h:aK M F w) (he:Ext M w w') (hm:∀k o,k<w.heap.size->M' k o->M k o):aK M' F w':=λw'' h'=>h w''
  ⟨Nat.le_trans he.size h'.size,λk hk hn=>(h'.block k (Nat.lt_of_lt_of_le hk he.size) λo ho=>hn o (hm k o hk ho)).trans (he.block k hk hn),
   λk o v hn hc=>h'.cell k o v (λho=>hn (hm k o (World.block_lt_of_cell? w _ hc) ho)) (he.cell k o v hn hc)⟩
end
def Kd.qh:Kd->Bool
  |.grow _ _=>true
  |_=>false
def fh (V:List Vr):Bool:=V.all λx=>x.born.isNone&&(x.dead.isNone&&!x.kd.qh)
def fQ (G:List aI):Bool:=G.all λe=>e.tag.isNone&&e.till.isNone
theorem cM {V:List Vr} (h:fh V=true) {x:Vr} (hx:x∈V):live none_ x=true/\x.lo=0/\∀m sz,x.kd≠.grow m sz:=by
  unfold fh at h
  rw[List.all_eq_true]at h
  have h1:=h x hx
  simp only[Bool.and_eq_true,Option.isNone_iff_eq_none]at h1
  refine⟨by unfold live; rw[h1.1,h1.2.1]; rfl,?_,λm sz e=>by rw[e]at h1; simp[Kd.qh]at h1⟩
  unfold Vr.lo
  cases hk:x.kd with
  |grow m sz=>rw[hk]at h1; simp[Kd.qh]at h1
  |_=>rfl
theorem sY {G:List aI} (h:fQ G=true) {e:aI} (he:e∈G):on none_ e.tag=true/\off none_ e.till=true:=by
  unfold fQ at h
  rw[List.all_eq_true]at h
  have h1:=h e he
  simp only[Bool.and_eq_true,Option.isNone_iff_eq_none]at h1
  rw[h1.1,h1.2]
  exact⟨rfl,rfl⟩
def Dx (V:List Vr) (β:Nat->Nat->Prop) (k:Nat):Prop:=∃x,x∈V/\β x.id k
section
variable {c c':bJ} {V:List Vr} {A:List Al} {G:List aI} {L:Nat->Bool} {β:Nat->Nat->Prop} {a a':Act} {w w':World} {M:Nat->Nat->Prop}
theorem aS.mL (h:aS c V A G none_ β a w) (hV:fh V=true) {k:Nat} (hk:Dx V β k):mine c k/\k<w.heap.size/\∀o v,w.cell? ⟨k,o,none⟩=some v->dG v:=by
  obtain⟨x,hx,hb⟩:=hk
  exact(h.var x hx (cM hV hx).1).blk hb
theorem kD (h:aS c V A G L β a w) {k o:Nat} (hm:mine c k):¬c.M0 k o:=λh0=>by
  have h1:=(h.old k o h0).1
  exact hm.elim (λh2=>by omega) h1.2
theorem aS.CX {d:Nat} {p:Pred} {v:Value} (h:aS c V [] G none_ β a w) (hd:d<c.N) (hV:∀x,x∈V->x.slot≠d) (hG:∀e,e∈G->e.slot≠d) (hp:aK (own c V none_ β) (λw=>p w v) w):aS c V [] (⟨none,none,d,p⟩::G) none_ β (a.put (some d) v) w:=by
  have sd:∀s,s≠d->sl (a.put (some d) v) s=sl a s:=λs hs=>br λe=>hs (Option.some.inj e).symm
  refine⟨by rw[ei]; exact h.size,by rw[put_defers]; exact h.defers,h.below,h.old,λx hx hl=>(h.var x hx hl).keep (sd _ (hV x hx)) rfl (λ_ _=>rfl) (Nat.le_refl _) (λ_ h=>h) (λ_ h=>h) rfl,h.apart,(λp hp=>by cases hp),λe he ho hf=>?_⟩
  rcases List.mem_cons.1 he with rfl|he
  · show aK _ (λw=>p w (sl (a.put (some d) v) d)) w
    rw[da (by rw[h.size]; exact hd)]
    exact hp
  · rw[sd _ (hG e he)]
    exact h.gK e he ho hf
abbrev lu (id s:Nat) (R:Rel):Vr:=⟨id,s,none,none,.obj,0,0,false,R,[]⟩
def kQ (β:Nat->Nat->Prop) (id:Nat) (B':Nat->Prop) (i:Nat):Nat->Prop:=if i=id then B' else β i
variable {id:Nat} {B':Nat->Prop}
theorem th {β:Nat->Nat->Prop}:kQ β id B' id=B':=if_pos rfl
theorem xT {β:Nat->Nat->Prop} {i:Nat} (h:i≠id):kQ β id B' i=β i:=if_neg h
theorem aS.move {s n0:Nat} {R R':Rel} (h:aS c V [] G none_ β a w) (hV:fh V=true) (hG:fQ G=true) (hk:V[n0]?=some (lu id s R)) (hu:∀(y:Vr) (n:Nat),V[n]?=some y->y.id=id->n=n0) (hle:di (β id) w w')
    (hB:∀k,B' k->β id k\/w.heap.size<=k) (hno:∀k,B' k->k<w'.heap.size/\∀o v,w'.cell? ⟨k,o,none⟩=some v->dG v) (hR:aK (minus (own c V none_ β) (β id)) (λw=>R' B' w (sl a s)) w'):
    aS c (V.set n0 (lu id s R')) [] G none_ (kQ β id B') a w':=by
  have hx:=List.mem_of_getElem? hk
  have hn0:=(List.getElem?_eq_some_iff.1 hk).1
  have hmem:∀y,y∈V.set n0 (lu id s R')->y=lu id s R'\/(y∈V/\y.id≠id):=by
    intro y hy
    obtain⟨n,hn⟩:=List.mem_iff_getElem?.1 hy
    rw[List.getElem?_set]at hn
    by_cases he:n0=n
    · rw[if_pos he,if_pos hn0]at hn
      exact .inl (Option.some.inj hn).symm
    · rw[if_neg he]at hn
      exact .inr ⟨List.mem_of_getElem? hn,λe=>he (hu y n hn e).symm⟩
  have dY:∀k,β id k->mine c k:=λk hk'=>(h.mL hV ⟨_,hx,hk'⟩).1
  have Cj:di c.dx c.w0 w':=⟨hle.os.trans h.below.os,hle.tape.trans h.below.tape,hle.output.trans h.below.output,Nat.le_trans h.below.size hle.size,λk hk' hn=>(hle.block k (Nat.lt_of_lt_of_le hk' h.below.size) λhb=>(dY k hb).elim (λh3=>by omega) hn).trans (h.below.block k hk' hn)⟩
  have zY:∀k,B' k->mine c k:=λk hk'=>(hB k hk').elim (dY k) λh1=>.inl (Nat.le_trans h.below.size h1)
  have ob:∀k o,β id k->own c V none_ β k o:=λk o hk'=>.inr ⟨_,hx,rfl,hk',Nat.zero_le _⟩
  have e1:Ext (own c V none_ β) w w':=Ext.iP hle λk o _ hk'=>ob k o hk'
  have hβ:∀y:Vr,y.id≠id->(kQ β id B') y.id=β y.id:=λy hy=>xT hy
  have Cw:(kQ β id B') id=B':=th
  have hown:∀k o,k<w.heap.size->own c (V.set n0 (lu id s R')) none_ (kQ β id B') k o->own c V none_ β k o:=by
    rintro k o hk' (h1|⟨y,hy,h1,h2,h3⟩)
    · exact .inl h1
    · rcases hmem y hy with rfl|⟨dI,hid⟩
      · have h2:(kQ β id B') id k:=h2
        rw[Cw]at h2
        exact(hB k h2).elim (ob k o) λh4=>by omega
      · rw[hβ y hid]at h2
        exact .inr ⟨y,dI,(cM hV dI).1,h2,h3⟩
  refine⟨h.size,h.defers,Cj,λk o h0=>⟨(h.old k o h0).1,λv hv=>(h.old k o h0).2 v ?_⟩,λy hy _=>?_,λy y' g hy hy' _ _ hne=>?_,(λp hp=>by cases hp),λe he ho hf=>?_⟩
  · have hk':k<w.heap.size:=Nat.lt_of_lt_of_le (h.old k o h0).1.1 h.below.size
    rw[World.cell?_of_block (w:=w) (a:=⟨k,o,none⟩) (hle.block k hk' λhb=>kD h (dY k hb) h0)]at hv
    exact hv
  · rcases hmem y hy with rfl|⟨dI,hid⟩
    · refine(aQ rfl).2 ?_
      show lO _ c none_ a w' _ ((kQ β id B') id)
      rw[Cw]
      refine⟨λk hk'=>⟨zY k hk',hno k hk'⟩,?_⟩
      refine hR.sub λk o _ hk'=>?_
      rcases hk'.1 with h1|⟨y,hy,h1,h2,h3⟩
      · exact⟨.inl h1,λhb=>kD h (dY k hb) h1⟩
      · rcases hmem y hy with rfl|⟨dI,hid⟩
        · have h2:(kQ β id B') id k:=h2
          rw[Cw]at h2
          exact absurd h2 hk'.2
        · rw[hβ y hid]at h2
          exact⟨.inr ⟨y,dI,(cM hV dI).1,h2,h3⟩,h.apart y _ k dI hx (cM hV dI).1 rfl hid h2⟩
    · have hl:=(cM hV dI).1
      have uz:∀g,β y.id g->¬β id g:=λg hg=>h.apart y _ g dI hx hl rfl hid hg
      have hlt:∀g,β y.id g->g<w.heap.size:=λg hg=>(h.mL hV ⟨y,dI,hg⟩).2.1
      refine(h.var y dI hl).keep rfl (hβ y hid) (λg hg=>hle.block g (hlt g hg) (uz g hg)) hle.size (λF hF=>hF.later e1 hown) (λF hF=>?_) rfl
      have e4:Ext (minus (own c V none_ β) (β y.id)) w w':=Ext.iP hle λk j _ hk'=>⟨ob k j hk',λhy'=>uz k hy' hk'⟩
      exact hF.later e4 λk o hk' h=>⟨hown k o hk' h.1,h.2⟩
  · rcases hmem y hy with rfl|⟨dI,hid⟩<;>rcases hmem y' hy' with rfl|⟨uE,zV⟩
    · exact absurd rfl hne
    · show(kQ β id B') id g->_
      rw[Cw,hβ y' zV]
      intro h1 h2
      rcases hB g h1 with h3|h3
      · exact h.apart _ y' g hx uE rfl (cM hV uE).1 (λe=>zV e.symm) h3 h2
      · have:=(h.mL hV ⟨y',uE,h2⟩).2.1
        omega
    · show _->¬(kQ β id B') id g
      rw[Cw,hβ y hid]
      intro h2 h1
      rcases hB g h1 with h3|h3
      · exact h.apart y _ g dI hx (cM hV dI).1 rfl hid h2 h3
      · have:=(h.mL hV ⟨y,dI,h2⟩).2.1
        omega
    · rw[hβ y hid,hβ y' zV]
      exact h.apart y y' g dI uE (cM hV dI).1 (cM hV uE).1 hne
  · obtain⟨k1,k2⟩:=sY hG he
    exact(h.gK e he k1 k2).later e1 hown
end
end Wx
