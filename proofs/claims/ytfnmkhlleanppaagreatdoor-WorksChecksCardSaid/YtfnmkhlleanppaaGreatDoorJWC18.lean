import Derived.RangeFuncNested
import Derived.Test.YtfnmkhlleanppaaGreatDoorJWC17
namespace Wx
open Go Go.RowKit
def Fl (l D:Nat) (r:Loop):Rel:=λB w _=>(∀k,B k↔k=l\/k=D)/\w.heap[l]?=some (.loop r)/\w.heap[D]?=some (.deferred (some []))/\D<l
abbrev cW (id l D:Nat) (r:Loop):Vr:=cr id id (Fl l D r)
def CH (a:Act) (s:Nat):aN:=⟨none,none,s,aG (sl a s)⟩
def ij (B:Nat->Prop) (w:World):Prop:=∀k,B k->k<w.heap.size/\∀o v,w.cell? ⟨k,o,none⟩=some v->dB v
def dG (V:List Vr) (id n0:Nat):Bool:=V.zipIdx.all λq=>q.1.id != id||q.2==n0
theorem cX {V:List Vr} {id n0:Nat} (h:dG V id n0=true) (y:Vr) (n:Nat) (hn:V[n]?=some y) (hy:y.id=id):n=n0:=by
 unfold dG at h
 rw[List.all_eq_true]at h
 have h1:=h (y,n) (List.mem_iff_getElem?.2 ⟨n,by simp[List.getElem?_zipIdx,hn]⟩)
 simpa [hy] using h1
variable {w:World}
theorem dy {k o:Nat} {ob:Obj} (h:w.heap[k]?=some ob) (hc:ob.isCells=false) (v:Value):w.cell? ⟨k,o,none⟩≠some v:=by
 intro e
 obtain⟨o',h1,h2⟩:=cells_of_cell e
 rw[h]at h1
 injection h1 with h1
 rw[<-h1,hc]at h2
 cases h2
theorem iF {B:Nat->Prop} {l:Nat} (o:Obj) (hl:B l):bX B w (w.putObj l o):=
 ⟨rfl,rfl,rfl,by rw[World.putObj_size]; exact Nat.le_refl _,λk _ hn=>World.putObj_heap_other λe=>hn (e▸hl)⟩
section
variable {P:Program} {Q:Exit->Act->World->Prop} {c:bQ} {V:List Vr} {G:List aN} {β:Nat->Nat->Prop} {a a':Act} {w w':World}
theorem aQ.Ik (h:aQ c V [] G none_ β a w) (S:List Nat):aQ c V [] (G++S.map (CH a)) none_ β a w:=by
 refine⟨h.size,h.defers,h.below,h.old,h.var,h.apart,h.al,λe he ho hf=>?_⟩
 rcases List.mem_append.1 he with he|he
 ·exact h.ew e he ho hf
 ·obtain⟨s,_,rfl⟩:=List.mem_map.1 he
  exact aJ.always rfl _
theorem aQ.C5 {G':List aN} (h:aQ c V [] G none_ β a w) (hg:∀e,e∈G'->e∈G):aQ c V [] G' none_ β a w:=
 ⟨h.size,h.defers,h.below,h.old,h.var,h.apart,h.al,λe he ho hf=>h.ew e (hg e he) ho hf⟩
variable {id n0 l D:Nat} {r:Loop}
theorem aQ.wF (h:aQ c V [] G none_ β a w) (hk:V[n0]?=some (cW id l D r)):(∀k,β id k↔k=l\/k=D)/\w.heap[l]?=some (.loop r)/\w.heap[D]?=some (.deferred (some []))/\D<l:=
 ((aB rfl).1 (h.var _ (List.mem_of_getElem? hk) rfl)).2.out
theorem aQ.record (r':Loop) (h:aQ c V [] G none_ β a w) (hV:bE V=true) (hG:bT G=true) (hk:V[n0]?=some (cW id l D r)) (hu:dG V id n0=true):∃β',aQ c (V.set n0 (cW id l D r')) [] G none_ β' a (w.putObj l (.loop r')):=by
 obtain⟨h1,h2,h3,h4⟩:=h.wF hk
 have hlt:l<w.heap.size:=(Array.getElem?_eq_some_iff.1 h2).1
 have hl2:(w.putObj l (.loop r')).heap[l]?=some (.loop r'):=World.putObj_heap_same hlt
 have FV:(w.putObj l (.loop r')).heap[D]?=some (.deferred (some [])):=(World.putObj_heap_other (by omega)).trans h3
 refine⟨_,h.move (B':=β id) (R':=Fl l D r') hV hG hk (cX hu) (iF _ ((h1 l).2 (.inl rfl))) (λk hk'=>.inl hk') (λk hk'=>?_) ?_⟩
 ·rw[World.putObj_size]
  rcases (h1 k).1 hk' with rfl|rfl
  ·exact⟨hlt,λo v hv=>absurd hv (dy hl2 rfl v)⟩
  ·exact⟨by omega,λo v hv=>absurd hv (dy FV rfl v)⟩
 ·intro w'' he
  have hb:∀k,β id k->w''.heap[k]?=(w.putObj l (.loop r')).heap[k]?:=λk hk'=>he.block k (by rw[World.putObj_size]; rcases (h1 k).1 hk' with rfl|rfl<;>omega) λo ho=>ho.2 hk'
  exact⟨h1,(hb l ((h1 l).2 (.inl rfl))).trans hl2,(hb D ((h1 D).2 (.inr rfl))).trans FV,h4⟩
def Cz (l:Nat) (P:Program) (body:Code) (Q:Exit->Act->World->Prop) (a:Act) (w:World):Prop:=∃w2,(Instr.beginRound l).run P w=.ok () w2/\body.ww (some l) [] P Q a w2
theorem DK {body:Code} (hI:Inv c V [] G none_ a w) (n0:Nat) (hr:r.state=.ready) (h:∀w,Inv c (V.set n0 (cW id l D { r with state:=.busy })) [] G none_ a w->body.ww (some l) [] P Q a w)
  (hk:V[n0]?=some (cW id l D r):=by exact rfl) (hV:bE V=true:=by kernel_rfl) (hG:bT G=true:=by kernel_rfl) (hu:dG V id n0=true:=by kernel_rfl):Cz l P body Q a w:=by
 obtain⟨β,hI⟩:=hI
 exact⟨_,run_beginRound (hI.wF hk).2.1 hr,h _ (hI.record _ hV hG hk hu)⟩
theorem end_ {S:List Nat} {a0:Act} (jump:Option Code) (hI:Inv c V [] (G++S.map (CH a0)) none_ a w) (hk:V[n0]?=some (cW id l D r)) (hV:bE V=true) (hG:bT G=true) (hu:dG V id n0=true)
  (K3:∀x,x∈V->x.slot∈S\/sl a x.slot=sl a0 x.slot) (CO:∀e,e∈G->e.slot∈S):
  ∃β' w4,(Instr.endRound l jump).run P w=.ok (.bool jump.isNone) w4/\bX c.dc c.w0 w4/\(∀k,gh (V.set n0 (cW id l D { r with state:=if jump.isNone then .ready else .done,pending:=jump })) β' k->mine c k) /\
   ij (gh (V.set n0 (cW id l D { r with state:=if jump.isNone then .ready else .done,pending:=jump })) β') w4/\aJ c.M0 (Told a0 (V.set n0 (cW id l D { r with state:=if jump.isNone then .ready else .done,pending:=jump })) G β') w4:=by
 obtain⟨β,hI⟩:=hI
 have heq:∀s,s∈S->sl a0 s=sl a s:=λs hs=>((hI.ew (CH a0 s) (List.mem_append_right _ (List.mem_map.2 ⟨s,hs,rfl⟩)) rfl rfl).out:sl a s=sl a0 s).symm
 have FQ:=hI.C5 (G':=G) λe he=>List.mem_append_left _ he
 obtain⟨β',h4⟩:=FQ.record { r with state:=if jump.isNone then .ready else .done,pending:=jump } hV hG hk hu
 have Jw:bE (V.set n0 (cW id l D { r with state:=if jump.isNone then .ready else .done,pending:=jump }))=true:=by
  unfold bE at hV ⊢
  rw[List.all_eq_true]at hV ⊢
  intro x hx
  rcases List.mem_or_eq_of_mem_set hx with hx|rfl
  ·exact hV x hx
  ·rfl
 refine⟨β',_,run_endRound jump (FQ.wF hk).2.1,h4.below,λk hk'=>(h4.gg Jw hk').1,λk hk'=>(h4.gg Jw hk').2,(h4.told Jw hG).imp λw ht=>ht.act (λx hx=>?_) λe he=>heq _ (CO e he)⟩
 rcases List.mem_or_eq_of_mem_set hx with hx|rfl
 ·exact(K3 x hx).elim (heq _) λh=>h.symm
 ·exact(K3 (cW id l D r) (List.mem_of_getElem? hk)).elim (heq _) λh=>h.symm
end
def oQ (P:Program) (l:Nat) (vs:Array Value) (w:World) (R:Bool->World->Prop):Prop:=∀n,YieldAt (rf none) n P l vs w λe w'=>∃b,e=.returned (.bool b)/\R b w'
end Wx

namespace Wx
open Go Go.RowKit
structure St (τ:Type) where
 B:Nat->Prop
 β:Nat->Nat->Prop
 t:τ
 cd:Code
def Du (N y0 y1:Nat) (S:List Nat):Bool:=S.all λs=>decide (s<N)&&(s != y0&&s != y1)
def nW (N:Nat) (S:List Nat) (V:List Vr):Bool:=bE V&&V.all λx=>S.contains x.slot&&decide (x.id<N)
def FA (S:List Nat) (G:List aN):Bool:=bT G&&G.all λe=>S.contains e.slot
def I4 {τ:Type} (c1:bQ) (V':τ->List Vr) (VX:Code->τ->List Vr) (G:List aN) (Jj:Vr):Exit->Act->World->Prop
 |.normal,a,w=>∃t,Inv c1 (V' t++[Jj]) [] G none_ a w
 |.ret,a,w=>∃t,Inv c1 (VX .ret t++[Jj]) [] G none_ a w
 |.exit id,a,w=>∃t,Inv c1 (VX (.exit id) t++[Jj]) [] G none_ a w
 |_,_,_=>False
variable {α:Type} {l:List α} {x:α}
theorem nk {y:α}:(l++[x]).set l.length y=l++[y]:=by simp
theorem iB:(l++[x])[l.length]?=some x:=by simp
section
variable {P:Program} {Q:Exit->Act->World->Prop} {c:bQ} {V:List Vr} {G:List aN} {β:Nat->Nat->Prop} {a a':Act} {w w':World}{N:Nat} {S:List Nat}
theorem fO {V:List Vr} (h:nW N S V=true) (l D:Nat) (r:Loop):bE (V++[cW N l D r])=true/\dG (V++[cW N l D r]) N V.length=true:=by
 unfold nW at h
 simp only[Bool.and_eq_true,List.all_eq_true]at h
 refine⟨?_,?_⟩
 ·have h1:=h.1
  unfold bE at h1 ⊢
  rw[List.all_append,h1]
  rfl
 ·unfold dG
  rw[List.all_eq_true]
  rintro⟨y,n⟩ hy
  have hy:=List.mem_iff_getElem?.1 hy
  obtain⟨m,hm⟩:=hy
  simp only[List.getElem?_zipIdx]at hm
  cases hg:(V++[cW N l D r])[m]? with
  |none=>rw[hg]at hm; cases hm
  |some z=>
   rw[hg]at hm
   simp only[Option.map_some,Option.some.injEq,Prod.mk.injEq]at hm
   obtain⟨rfl,rfl⟩:=hm
   rcases Nat.lt_or_ge m V.length with hlt|hge
   ·rw[List.getElem?_append_left hlt]at hg
    have h2:=(h.2 z (List.mem_of_getElem? hg)).2
    simp at h2
    simp; omega
   ·rw[List.getElem?_append_right hge]at hg
    have:m<V.length+1:=by
     rcases Nat.lt_or_ge m (V.length+1)with h3|h3
     ·exact h3
     ·rw[List.getElem?_eq_none (by simp; omega)]at hg; cases hg
    simp; omega
theorem aQ.DF {r:Loop} (h:aQ c V [] G none_ β a w) (hV:nW N S V=true) (hG:bT G=true):
  ∃β',aQ c (V++[cW N (w.heap.size+1) w.heap.size r]) [] G none_ β' a ((w.alloc (.deferred (some []))).alloc (.loop r)):=by
 have hv:=hV
 unfold nW at hV
 simp only[Bool.and_eq_true,List.all_eq_true]at hV
 have hid:∀y,y∈V->y.id≠N:=λy hy e=>by have:=(hV.2 y hy).2; simp at this; omega
 let β1:=gW β N λ_=>False
 have e1:∀y,y∈V->β1 y.id=β y.id:=λy hy=>kr (hid y hy)
 have eN:∀k,¬β1 N k:=λk h=>by rw[show β1 N=λ_=>False from gJ]at h; exact h
 have hmem:∀y,y∈V++[cr N N λB _ _=>∀k,¬B k]->y∈V\/y=cr N N λB _ _=>∀k,¬B k:=λy hy=>by simpa using hy
 have hown:∀k o,own c (V++[cr N N λB _ _=>∀k,¬B k]) none_ β1 k o->own c V none_ β k o:=by
  rintro k o (h1|⟨y,hy,h1,h2,h3⟩)
  ·exact .inl h1
  ·rcases hmem y hy with hy|rfl
   ·rw[e1 y hy]at h2
    exact .inr ⟨y,hy,h1,h2,h3⟩
   ·exact absurd h2 (eN k)
 have h1:aQ c (V++[cr N N λB _ _=>∀k,¬B k]) [] G none_ β1 a w:=by
  refine⟨h.size,h.defers,h.below,h.old,λy hy hl=>?_,λy y' g hy hy' hl hl' hne=>?_,(λp hp=>by cases hp),λe he ho hf=>(h.ew e he ho hf).sub λk o _ hk=>hown k o hk⟩
  ·rcases hmem y hy with hy|rfl
   ·exact(h.var y hy hl).keep rfl (e1 y hy) (λ_ _=>rfl) (Nat.le_refl _) (λ_ hF=>hF.sub λk o _ hk=>hown k o hk) (λ_ hF=>hF.sub λk o _ hk=>⟨hown k o hk.1,hk.2⟩) rfl
   ·exact(aB rfl).2 ⟨λk hk=>absurd hk (eN k),λ_ _=>eN⟩
  ·rcases hmem y hy with hy|rfl<;>rcases hmem y' hy' with hy'|rfl
   ·rw[e1 y hy,e1 y' hy']
    exact h.apart y y' g hy hy' hl hl' hne
   ·exactλ_=>eN g
   ·exactλh2=>absurd h2 (eN g)
   ·exact absurd rfl hne
 obtain⟨hp,hu⟩:=fO hv (w.heap.size+1) w.heap.size r
 have yg:bE (V++[cr N N λB _ _=>∀k,¬B k])=true:=by
  have h2:=hV.1
  unfold bE at h2 ⊢
  rw[List.all_append,h2]
  rfl
 have MK:∀(y:Vr) (n:Nat),(V++[cr N N λB _ _=>∀k,¬B k])[n]?=some y->y.id=N->n=V.length:=by
  intro y n hn hy
  rcases Nat.lt_or_ge n V.length with hlt|hge
  ·rw[List.getElem?_append_left hlt]at hn
   exact absurd hy (hid y (List.mem_of_getElem? hn))
  ·have:=(List.getElem?_eq_some_iff.1 hn).1
   simp at this
   omega
 have hb:Below w.heap.size w ((w.alloc (.deferred (some []))).alloc (.loop r)):=((Below.refl _ w).alloc (Nat.le_refl _) _).alloc (by simp) _
 have hsz:((w.alloc (.deferred (some []))).alloc (.loop r)).heap.size=w.heap.size+2:=by simp
 have hl:((w.alloc (.deferred (some []))).alloc (.loop r)).heap[w.heap.size+1]?=some (.loop r):=by
  have:=World.alloc_heap_new (w.alloc (.deferred (some []))) (.loop r); rwa [World.size_alloc]at this
 have hd:((w.alloc (.deferred (some []))).alloc (.loop r)).heap[w.heap.size]?=some (.deferred (some [])):=
  (Below.heap_alloc _ _ _ (by simp)).trans (World.alloc_heap_new w _)
 refine⟨_,by
  have:=h1.move (n0:=V.length) (B':=λk=>k=w.heap.size+1\/k=w.heap.size) (R':=Fl (w.heap.size+1) w.heap.size r) yg hG iB MK (bX.bH hb) (λk hk=>.inr (by omega)) (λk hk=>?_) ?_
  ·rw[nk]at this
   exact this
  ·rcases hk with rfl|rfl
   ·exact⟨by omega,λo v hv=>absurd hv (dy hl rfl v)⟩
   ·exact⟨by omega,λo v hv=>absurd hv (dy hd rfl v)⟩
  ·intro w'' he
   have hn:∀k o,w.heap.size<=k->¬minus (own c (V++[cr N N λB _ _=>∀k,¬B k]) none_ β1) (β1 N) k o:=λk o hk ho=>by
    rcases hown k o ho.1 with h5|⟨y,hy,h5,h6,_⟩
    ·have h7:=(h.old k o h5).1.1
     have h8:=h.below.size
     omega
    ·have:=(h.var y hy h5).blk h6
     omega
   exact⟨λ_=>Iff.rfl,(he.block _ (by omega) λo=>hn _ o (by omega)).trans hl,(he.block _ (by omega) λo=>hn _ o (by omega)).trans hd,by omega⟩⟩
theorem aJ.eqv {M M':Nat->Nat->Prop} {F:World->Prop} (h:aJ M F w) (hm:∀k o,M' k o->M k o):aJ M' F w:=h.sub λk o _ hk=>hm k o hk
abbrev coll (D:Nat):Deferred:={ target:=.collected D,args:=#[] }
end
end Wx
