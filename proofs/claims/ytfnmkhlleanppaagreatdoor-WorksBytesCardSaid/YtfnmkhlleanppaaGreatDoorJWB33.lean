import Derived.MapKept
import Derived.Test.YtfnmkhlleanppaaGreatDoorJWB26
namespace Wx
open Go Go.RowKit
section
variable {P:Program} {c:bJ} {V:List Vr} {A:List Al} {G:List aI} {a:Act} {w:World} {o:Oper}{d:Nat} {x:Operand} {ty:TypeId} {pos:String} {au:Array Edge}
theorem aS.nr {β:Nat->Nat->Prop} {id s n0:Nat} {H H':List Bk} {v:Value} {w':World} {B':Nat->Prop} (hI:aS c V [] G none_ β a w) (hk:V[n0]?=some (aP id s H)) (hle:di (β id) w w') (Bo:∀k,B' k->β id k\/w.heap.size<=k) (uu:bN B' w' H') (hd:d<c.N)
  (hV:(V.all λy=>(y.slot != d)&&(y.born.isNone&&y.dead.isNone))=true) (hu:(V.filter λy=>y.id==id).length=1) (hG:(G.all λe=>e.slot != d)=true):
  Inv c (V.set n0 (aP id s H')) [] (⟨none,none,d,aJ v⟩::G) none_ (a.put (some d) v) w':=by
 have hx:=List.mem_of_getElem? hk
 have hV:∀y,y∈V->y.slot≠d/\live none_ y=true:=λy hy=>by
  rw[List.all_eq_true]at hV
  have:=hV y hy
  simp only[Bool.and_eq_true,bne_iff_ne]at this
  refine⟨this.1,?_⟩
  unfold live
  cases hb:y.born with
  |some j=>rw[hb]at this; cases this.2.1
  |none=>cases hd:y.dead with
   |some j=>rw[hd]at this; cases this.2.2
   |none=>rfl
 have hG:∀e,e∈G->e.slot≠d:=λe he=>by
  rw[List.all_eq_true]at hG
  simpa using hG e he
 have zX:n0<V.length:=by
  rcases Nat.lt_or_ge n0 V.length with h'|h'
  ·exact h'
  ·rw[List.getElem?_eq_none h']at hk; cases hk
 have Ag:live none_ (aP id s H)=true:=rfl
 have hsub:∀y,y∈V.set n0 (aP id s H')->y=aP id s H'\/(y∈V/\y.id≠id):=λy hy=>by
  obtain⟨j,hj⟩:=List.mem_iff_getElem?.1 hy
  by_cases Ci:j=n0
  ·subst Ci
   rw[List.getElem?_set_self zX]at hj
   exact .inl (Option.some.inj hj).symm
  ·rw[List.getElem?_set_ne (Ne.symm Ci)]at hj
   have dI:=List.mem_of_getElem? hj
   by_cases hid:y.id=id
   ·exfalso
    have e:=bK hu dI hx (by simpa using hid) (by simp)
    subst e
    have h2:((V.filter λy=>y.id==id).length)>=2:=by
     have jx:[aP id s H,aP id s H].Sublist V:=by
      rcases Nat.lt_or_ge j n0 with hlt|hge
      ·exact iQ hj hk hlt
      ·exact iQ hk hj (by omega)
     have:=(jx.filter λy=>y.id==id).length_le
     simpa using this
    omega
   ·exact .inr ⟨dI,hid⟩
 let β':Nat->Nat->Prop:=λq=>if q=id then B' else β q
 have bx:β' id=B':=if_pos rfl
 have bo:∀y:Vr,y.id≠id->β' y.id=β y.id:=λy hy=>if_neg hy
 have hB:∀k,β id k->mine c k/\k<w.heap.size/\∀o v,w.cell? ⟨k,o,none⟩=some v->dG v:=λk hk'=>iW hI hx Ag hk'
 have ob:∀k j,β id k->own c V none_ β k j:=λk j hk'=>.inr ⟨_,hx,Ag,hk',Nat.zero_le _⟩
 have e3:Ext (own c V none_ β) w w':=Ext.iP hle λk j _ hk'=>ob k j hk'
 have hown:∀k j,k<w.heap.size->own c (V.set n0 (aP id s H')) none_ β' k j->own c V none_ β k j:=by
  rintro k' j hk' (h1|⟨y,hy,h1,h2,h3⟩)
  ·exact .inl h1
  ·rcases hsub y hy with rfl|⟨dI,h4⟩
   ·have h2:β' id k':=h2
    rw[bx]at h2
    exact(Bo k' h2).elim (ob k' j) λe=>by omega
   ·rw[bo y h4]at h2
    exact .inr ⟨y,dI,h1,h2,h3⟩
 have kn:dm (own c (V.set n0 (aP id s H')) none_ β') w':=by
  rintro k j hk'
  by_cases Dh:B' k
  ·exact⟨(uu.nw Dh).1,λu hu=>(uu.nw Dh).2 j u hu⟩
  ·have:own c V none_ β k j/\¬β id k\/own c V none_ β k j/\β id k/\k<w.heap.size:=by
    rcases hk' with h1|⟨y,hy,h1,h2,h3⟩
    ·by_cases hb:β id k
     ·exact .inr ⟨.inl h1,hb,(hB k hb).2.1⟩
     ·exact .inl ⟨.inl h1,hb⟩
    ·rcases hsub y hy with rfl|⟨dI,h4⟩
     ·have h2:β' id k:=h2
      rw[bx]at h2
      exact absurd h2 Dh
     ·rw[bo y h4]at h2
      exact .inl ⟨.inr ⟨y,dI,h1,h2,h3⟩,λhb=>hI.apart y _ k dI hx (hV y dI).2 Ag h4 h2 hb⟩
   rcases this with⟨h1,h2⟩|⟨h1,h2,h3⟩
   ·obtain⟨h5,h6⟩:=aL hI k j h1
    refine⟨Nat.lt_of_lt_of_le h5 hle.size,λu dZ=>h6 u ?_⟩
    rw[World.cell?_of_block (w:=w) (a:=⟨k,j,none⟩) (hle.block k h5 h2)]at dZ
    exact dZ
   ·rcases hk' with h4|⟨y,hy,h4,h5,h6⟩
    ·exact absurd ((hI.old k j h4).1) (by
      rintro⟨h7,h8⟩
      rcases (hB k h2).1 with h9|h9
      ·omega
      ·exact h8 h9)
    ·rcases hsub y hy with rfl|⟨dI,h7⟩
     ·have h5:β' id k:=h5
      rw[bx]at h5
      exact absurd h5 Dh
     ·rw[bo y h7]at h5
      exact absurd h2 (hI.apart y _ k dI hx (hV y dI).2 Ag h7 h5)
 have sd:∀v s,s≠d->sl (a.put (some d) v) s=sl a s:=λv s hs=>br λe=>hs (Option.some.inj e).symm
 refine⟨β',by rw[ei]; exact hI.size,by rw[put_defers]; exact hI.defers,⟨hle.os.trans hI.below.os,hle.tape.trans hI.below.tape,hle.output.trans hI.below.output,Nat.le_trans hI.below.size hle.size,λk hk' hn=>?_⟩,hI.gA λk hk' hn=>?_,λy hy _=>?_,λy z g hy hz _ _ hne=>?_,(λp hp=>by cases hp),λe he qg hf'=>?_⟩
 ·rw[hle.block k (Nat.lt_of_lt_of_le hk' hI.below.size) λhb=>(hB k hb).1.elim (λh3=>by omega) (λh3=>hn h3)]
  exact hI.below.block k hk' hn
 ·exact hle.block k (Nat.lt_of_lt_of_le hk' hI.below.size) λhb=>(hB k hb).1.elim (λh3=>by omega) (λh3=>hn h3)
 ·rcases hsub y hy with rfl|⟨dI,h4⟩
  ·refine(aQ rfl).2 ?_
   show lO _ c none_ _ w' _ (β' id)
   rw[bx]
   refine⟨λk hk'=>⟨?_,(uu.nw hk').1,λo v hv=>(uu.nw hk').2 o v hv⟩,uu.box kn⟩
   exact(Bo k hk').elim (λhk'=>(hB k hk').1) λe=>.inl (Nat.le_trans hI.below.size e)
  ·have uz:∀g,β y.id g->¬β id g:=λg hg=>hI.apart y _ g dI hx (hV y dI).2 Ag h4 hg
   exact(hI.var y dI (hV y dI).2).keep (sd _ _ (hV y dI).1) (bo y h4) (λg hg=>hle.block g (bQ hI dI (hV y dI).2 hg) (uz g hg)) hle.size (λF hF=>cC e3 hown hF) (λF hF=>by
    have e4:Ext (minus (own c V none_ β) (β y.id)) w w':=Ext.iP hle λk j _ hk'=>⟨ob k j hk',λhy'=>uz k hy' hk'⟩
    refine cC e4 ?_ hF
    rintro k j hk' ⟨h1,h2⟩
    exact⟨hown k j hk' h1,h2⟩) rfl
 ·rcases hsub y hy with rfl|⟨dI,h4⟩<;>rcases hsub z hz with rfl|⟨Bu,h6⟩
  ·exact absurd rfl hne
  ·intro h1 h2
   have h1:β' id g:=h1
   rw[bx]at h1
   rw[bo z h6]at h2
   exact(Bo g h1).elim (λh1=>hI.apart _ z g hx Bu Ag (hV z Bu).2 hne h1 h2) λe=>absurd (bQ hI Bu (hV z Bu).2 h2) (by omega)
  ·intro h1 h2
   have h2:β' id g:=h2
   rw[bx]at h2
   rw[bo y h4]at h1
   exact(Bo g h2).elim (λh2=>hI.apart y _ g dI hx (hV y dI).2 Ag hne h1 h2) λe=>absurd (bQ hI dI (hV y dI).2 h1) (by omega)
  ·rw[bo y h4,bo z h6]
   exact hI.apart y z g dI Bu (hV y dI).2 (hV z Bu).2 hne
 ·rcases List.mem_cons.1 he with rfl|he
  ·refineλw'' _=>?_
   show sl (a.put (some d) _) d=_
   exact da (by rw[hI.size]; exact hd)
  ·show aK _ (λw=>e.p w (sl (a.put (some d) _) e.slot)) w'
   rw[sd _ _ (hG e he)]
   exact cC e3 hown (hI.gK e he qg hf')
variable {fn:Func}
end
end Wx

namespace Wx
open Go Go.RowKit Go.Proofs
set_option linter.unusedVariables false
def MV:List (ByteArray×Value)->List (ByteArray×Pred)->World->Prop
 |[],[],_=>True
 |x::q,y::ps,w=>(x.1=y.1/\y.2 w x.2)/\MV q ps w
 |_,_,_=>False
theorem MV.snoc:∀{q:List (ByteArray×Value)} {ps:List (ByteArray×Pred)} {w:World} {k:ByteArray} {v:Value} {p:Pred},MV q ps w->p w v->MV (q++[(k,v)]) (ps++[(k,p)]) w
 |[],[],_,_,_,_,_,h=>⟨⟨rfl,h⟩,trivial⟩
 |_::_,_::_,_,_,_,_,h,h2=>⟨h.1,MV.snoc h.2 h2⟩
 |[],_::_,_,_,_,_,h,_=>h.elim
 |_::_,[],_,_,_,_,h,_=>h.elim
def dy (k:ByteArray):List (ByteArray×Pred)->Option Pred
 |[]=>none
 |y::ps=>if y.1=k then some y.2 else dy k ps
def oC (x:ByteArray×Value):Value×Value:=(.string x.1,x.2)
def qx (ps:List (ByteArray×Pred)):Pred:=λw v=>∃(r:Nat) (es:Array MapEntry) (clock:Nat) (q:List (ByteArray×Value)),v=.map (some r)/\w.heap[r]?=some (.map es clock)/\es.toList.map (λe=>(e.key,e.val))=q.map oC/\MV q ps w
theorem vL (a b:ByteArray):Instr.sameNow .string (.string a) (.string b)=some (decide (a=b)):=by
 show some (a==b)=_
 congr 1
 by_cases e:a=b
 ·rw[decide_eq_true e]; exact(MapKept.bytes_beq a b).2 e
 ·rw[decide_eq_false e]
  cases h:a==b
  ·rfl
  ·exact absurd ((MapKept.bytes_beq a b).1 h) e
def vy (ps:List (ByteArray×Pred)) (k:ByteArray) (z:Value):Pred:=dB ((dy k ps).getD (aJ z)) (pB (dy k ps).isSome)
def AE (P:Program) (T:TypeId):Option (TypeId×TypeId):=match P.underlying T with
 |some (.map K E)=>match P.underlying K with
  |some .string=>some (K,E)
  |_=>none
 |_=>none
theorem uU {P:Program} {T K E:TypeId} (h:AE P T=some (K,E)):P.underlying T=some (.map K E)/\P.underlying K=some .string:=by
 unfold AE at h
 split at h
 ·rename_i h1
  split at h
  ·rename_i h2
   injection h with h
   injection h with e1 e2
   subst e1 e2
   exact⟨h1,h2⟩
  ·cases h
 ·cases h
section
variable {P:Program} {ops:Array Oper} {ms:List Nat} {c:bJ} {V:List Vr} {A:List Al} {G:List aI} {i d:Nat} {x y:Operand} {ty:TypeId} {pos:String} {au:Array Edge} {a:Act} {w:World}
theorem oD:∀{q q':List (ByteArray×Value)},q.map oC=q'.map oC->q=q'
 |[],[],_=>rfl
 |x::q,y::q',h=>by
  rw[List.map_cons,List.map_cons]at h
  injection h with h1 h2
  have e1:Value.string x.1=.string y.1:=congrArg Prod.fst h1
  have e2:(oC x).2=(oC y).2:=congrArg Prod.snd h1
  injection e1 with e1
  rw[oD h2,show x=y from Prod.ext e1 e2]
 |[],_::_,h=>by cases h
 |_::_,[],h=>by cases h
variable {M:Nat->Nat->Prop} {ps:List (ByteArray×Pred)}
theorem xz {w:World} {v:Value} (h:aK M (λw=>qx ps w v) w):∃(r:Nat) (es:Array MapEntry) (clock:Nat) (q:List (ByteArray×Value)),v=.map (some r)/\w.heap[r]?=some (.map es clock)/\es.toList.map (λe=>(e.key,e.val))=q.map oC/\aK M (MV q ps) w:=by
 obtain⟨r,es,clock,q,rfl,hb,hq,hm⟩:=h.out
 have hlt:r<w.heap.size:=(Array.getElem?_eq_some_iff.1 hb).1
 have hno:∀o,¬M r o:=λo ho=>by
  have he:Ext M w (w.putObj r (.deferred none)):=⟨by rw[World.putObj_size]; exact Nat.le_refl _,λk _ hn=>World.putObj_heap_other λe=>hn o (e▸ho),λk o v _ hc=>by
   have hk:k≠r:=λe=>by
    subst e
    exact absurd hc (jd hb rfl v)
   rw[World.cell?_of_block (w:=w) (a:=⟨k,o,none⟩) (World.putObj_heap_other hk)]; exact hc⟩
  obtain⟨r',es',clock',q',e1,e2,_⟩:=h _ he
  injection e1 with e1
  injection e1 with e1
  subst e1
  rw[World.putObj_heap_same hlt]at e2
  cases e2
 refine⟨r,es,clock,q,rfl,hb,hq,λw' he=>?_⟩
 obtain⟨r',es',clock',q',e1,e2,e3,e4⟩:=h w' he
 injection e1 with e1
 injection e1 with e1
 subst e1
 rw[he.block r hlt hno,hb]at e2
 injection e2 with e2
 injection e2 with e2
 subst e2
 rw[hq]at e3
 rw[oD e3]
 exact e4
theorem jf {k:ByteArray} {w:World} {M:Nat->Nat->Prop}:∀{es:List MapEntry} {q:List (ByteArray×Value)} {ps:List (ByteArray×Pred)} (i:Nat),es.map (λe=>(e.key,e.val))=q.map oC->aK M (MV q ps) w ->
  (dy k ps=none/\Instr.findNow .string (.string k) es i=some none)\/∃p j v,dy k ps=some p/\Instr.findNow .string (.string k) es i=some (some (j,v))/\aK M (λw=>p w v) w
 |[],[],[],_,_,_=>.inl ⟨rfl,rfl⟩
 |e::es,x::q,y::ps,i,h,hm=>by
  rw[List.map_cons,List.map_cons]at h
  injection h with h1 h2
  have hk:e.key=.string x.1:=congrArg Prod.fst h1
  have hv:e.val=x.2:=congrArg Prod.snd h1
  have hs:Instr.sameNow .string (.string k) e.key=some (decide (k=x.1)):=by rw[hk]; exact vL _ _
  have sE:x.1=y.1:=hm.out.1.1
  by_cases hx:y.1=k
  ·refine .inr ⟨y.2,i,e.val,if_pos hx,?_,λw' he=>by rw[hv]; exact(hm w' he).1.2⟩
   unfold Instr.findNow
   rw[hs,decide_eq_true (by rw[sE,hx])]
  ·have hf:Instr.findNow .string (.string k) (e::es) i=Instr.findNow .string (.string k) es (i+1):=by
    conv=>lhs; unfold Instr.findNow
    rw[hs,decide_eq_false (by rw[sE]; exactλe=>hx e.symm)]
   rw[hf,show dy k (y::ps)=dy k ps from if_neg hx]
   exact jf (i+1) h2 λw' he=>(hm w' he).2
 |[],[],_::_,_,_,hm=>hm.out.elim
 |[],_::_,_,_,h,_=>by cases h
 |_::_,[],_,_,h,_=>by cases h
 |_::_,_::_,[],_,_,hm=>hm.out.elim
variable {T K E:TypeId} {r:Nat} {k:ByteArray}
theorem vJ {es:Array MapEntry} {clock:Nat} {z:Value} (ht:AE P T=some (K,E)) (hz:∀w,(zeroValue E).run P w=.ok z w) (hb:w.heap[r]?=some (.map es clock)):
  (Instr.findNow .string (.string k) es.toList 0=some none->(Instr.lookup T (.map (some r)) (.string k) true).run P w=.ok (.tuple #[z,.bool false]) w)/\∀j v,Instr.findNow .string (.string k) es.toList 0=some (some (j,v))->(Instr.lookup T (.map (some r)) (.string k) true).run P w=.ok (.tuple #[v,.bool true]) w:=by
 obtain⟨hT,hK⟩:=uU ht
 constructor
 ·intro hu
  unfold Instr.lookup
  simp only[Sem.run_bind,run_underlying hT,Result.andThen_ok,MapKept.run_getObj_map hb,Sem.run_pure,MapKept.run_checkKey hK (show MapKept.IsKey .string (.string k)from trivial),MapKept.run_findKey hK hu,hz,if_true]
 ·intro j v hu
  unfold Instr.lookup
  simp only[Sem.run_bind,run_underlying hT,Result.andThen_ok,MapKept.run_getObj_map hb,Sem.run_pure,MapKept.run_checkKey hK (show MapKept.IsKey .string (.string k)from trivial),MapKept.run_findKey hK hu,if_true]
theorem Fb (z:Value) (ht:AE P T=some (K,E):=by kernel_rfl) (hz:∀w,(zeroValue E).run P w=.ok z w:=by exactλ_=>by kernel_rfl) (h1:Has ms G i x (qx ps):=by exact hs) (h2:Has ms G i y (pT k):=by exact hs) (hp:Post G i (vy ps k z):=by exact pt rfl):
  OpOk P ops ms c V A G i ⟨some d,.lookup T x y true,ty,pos,au,none⟩:=
 bk rfl rfl rfl (.inl rfl) hp λL β a w hI hd=>by
  obtain⟨r,es,clock,q,ex,hb,hq,E2⟩:=xz (h1.spec hI hd)
  have ey:a.eval y=.string k:=(h2.spec hI hd).out
  obtain⟨k1,k2⟩:=vJ (k:=k) ht hz hb
  rcases jf (k:=k) 0 hq E2 with⟨h3,h4⟩|⟨p,j,v,h3,h4,h5⟩
  ·refine⟨_,w,?_,Below.refl _ _,λw' he=>⟨z,.bool false,rfl,by rw[h3]; exact rfl,by rw[h3]; exact rfl⟩⟩
   show(do pure (Next.value (<-Instr.lookup T (a.eval x) (a.eval y) true))).run P w=_
   rw[ex,ey,Sem.run_bind,k1 h4]
   rfl
  ·refine⟨_,w,?_,Below.refl _ _,λw' he=>⟨v,.bool true,rfl,by rw[h3]; exact h5 w' he,by rw[h3]; exact rfl⟩⟩
   show(do pure (Next.value (<-Instr.lookup T (a.eval x) (a.eval y) true))).run P w=_
   rw[ex,ey,Sem.run_bind,k2 j v h4]
   rfl
variable {p:Pred}
theorem Ep (K E:TypeId) (z:Value) (hl:dy k ps=some p) (ht:AE P T=some (K,E):=by kernel_rfl) (hz:∀w,(zeroValue E).run P w=.ok z w:=by exactλ_=>by kernel_rfl) (h1:Has ms G i x (qx ps):=by exact hs) (h2:Has ms G i y (pT k):=by exact hs) (hp:Post G i (dB p (pB true)):=by exact pt rfl):
  OpOk P ops ms c V A G i ⟨some d,.lookup T x y true,ty,pos,au,none⟩:=Fb z ht hz h1 h2 (by unfold vy; rw[hl]; exact hp)
theorem Gt (K E:TypeId) (z:Value) (hl:dy k ps=none) (ht:AE P T=some (K,E):=by kernel_rfl) (hz:∀w,(zeroValue E).run P w=.ok z w:=by exactλ_=>by kernel_rfl) (h1:Has ms G i x (qx ps):=by exact hs) (h2:Has ms G i y (pT k):=by exact hs) (hp:Post G i (dB (aJ z) (pB false)):=by exact pt rfl):
  OpOk P ops ms c V A G i ⟨some d,.lookup T x y true,ty,pos,au,none⟩:=Fb z ht hz h1 h2 (by unfold vy; rw[hl]; exact hp)
def qi (r:Nat) (q:List (ByteArray×Value)):(Nat->Prop)->World->Prop:=λB w=>(∀k,B k↔k=r)/\∃(es:Array MapEntry) (clock:Nat),w.heap[r]?=some (.map es clock)/\es.toList.map (λe=>(e.key,e.val))=q.map oC
abbrev AD (id r:Nat) (q:List (ByteArray×Value)):Vr:=lu id id λB w _=>qi r q B w
def Ff (r:Nat) (q:List (ByteArray×Value)) (ps:List (ByteArray×Pred)):Pred:=λw v=>v=.map (some r)/\MV q ps w
abbrev AB (c:bJ) (V:List Vr) (G:List aI) (d:Nat) (ps:List (ByteArray×Pred)) (x:Nat×List (ByteArray×Value)):Act->World->Prop:=Inv c (AD d x.1 x.2::V) [] (⟨none,none,d,Ff x.1 x.2 ps⟩::G) none_
theorem oK {B:Nat->Prop} {q:List (ByteArray×Value)} {w:World} (hB:B r) (h:qi r q B w):aK (minus M B) (qi r q B) w:=λw' he=>by
 obtain⟨h1,es,clock,h2,h3⟩:=h
 exact⟨h1,es,clock,(he.block r (Array.getElem?_eq_some_iff.1 h2).1 λo ho=>ho.2 hB).trans h2,h3⟩
theorem aS.pD {β:Nat->Nat->Prop} {G':List aI} (h:aS c V [] G none_ β a w) (hE:∀e,e∈G'->on none_ e.tag=true->off none_ e.till=true->aK (own c V none_ β) (λw=>e.p w (sl a e.slot)) w):aS c V [] G' none_ β a w:=
 ⟨h.size,h.defers,h.below,h.old,h.var,h.apart,(λp hp=>by cases hp),λe he ho hf=>hE e he ho hf⟩
theorem gX {k:ByteArray}:∀{ps:List (ByteArray×Pred)},(ps.all λx=>decide (x.1≠k))=true->dy k ps=none
 |[],_=>rfl
 |y::ps,h=>by
  rw[List.all_cons,Bool.and_eq_true,decide_eq_true_eq]at h
  exact(if_neg h.1).trans (gX h.2)
theorem Fc (hd:decide (d<c.N)=true:=by kernel_rfl) (hV:(V.all λy=>(y.slot != d&&y.id != d)&&(y.born.isNone&&y.dead.isNone))=true:=by kernel_rfl) (hG:(G.all λe=>e.slot != d)=true:=by kernel_rfl):∀a w,Inv c V [] G none_ a w ->
  aU P ops ⟨some d,.makeMap T none,ty,pos,au,none⟩ a w (λa w=>∃x,AB c V G d [] x a w):=λa w ⟨β,hI⟩=>by
 have hb:Below w.heap.size w (w.alloc (.map #[] 0)):=Below.alloc (Below.refl _ _) (Nat.le_refl _) _
 have hnew:(w.alloc (.map #[] 0)).heap[w.heap.size]?=some (.map #[] 0):=World.alloc_heap_new _ _
 have hsz:w.heap.size<(w.alloc (.map #[] 0)).heap.size:=(Array.getElem?_eq_some_iff.1 hnew).1
 refine .of rfl (ct (v:=.map (some w.heap.size)) (w':=w.alloc (.map #[] 0)) rfl ⟨(w.heap.size,[]),?_⟩)
 obtain⟨β',h⟩:=hI.zq (b:=w.heap.size) (R:=qi w.heap.size []) (v:=.map (some w.heap.size)) hb (Nat.le_refl _) hsz (λo u hu=>absurd hu (jd hnew rfl u)) (λM _=>oK rfl ⟨λ_=>Iff.rfl,#[],0,hnew,rfl⟩) (of_decide_eq_true hd) hV hG
 refine⟨β',h.pD λe he ho hf=>?_⟩
 rcases List.mem_cons.1 he with rfl|he
 ·exact(h.gK _ List.mem_cons_self rfl rfl).imp λw (e:_=_)=>⟨e,trivial⟩
 ·exact h.gK e (List.mem_cons_of_mem _ he) ho hf
theorem fe (key:ByteArray) (ht:(AE P T).isSome=true:=by kernel_rfl) (hy:Has [0] G 0 y p:=by exact hs) (hn:(ps.all λx=>decide (x.1≠key))=true:=by kernel_rfl) (hV:fh V=true:=by kernel_rfl) (hG:fQ G=true:=by kernel_rfl) (hu:(V.all λy=>y.id != d)=true:=by kernel_rfl) (hGs:(G.all λe=>e.slot != d)=true:=by kernel_rfl):
  ∀x a w,AB c V G d ps x a w->aU P ops ⟨none,.insert T (.tmp d) (.const (.string key)) y,ty,pos,au,none⟩ a w (λa w=>∃x,AB c V G d (ps++[(key,p)]) x a w):=λ⟨r,q⟩ a w ⟨β,hI⟩=>by
 obtain⟨⟨K,E⟩,ht⟩:=Option.isSome_iff_exists.1 ht
 obtain⟨hT,hK⟩:=uU ht
 have hent:=hI.gK _ List.mem_cons_self rfl rfl
 obtain⟨Da,E2⟩:=hent.out
 have Da:sl a d=.map (some r):=Da
 have hO:=(aQ rfl).1 (hI.var _ List.mem_cons_self rfl)
 obtain⟨h1,es,clock,h2,h3⟩:qi r q (β d) w:=hO.2.out
 have hlt:r<w.heap.size:=(Array.getElem?_eq_some_iff.1 h2).1
 have hfind:Instr.findNow .string (.string key) es.toList 0=some none:=by
  rcases jf (k:=key) 0 h3 (hent.imp λ_ h=>h.2)with⟨_,h4⟩|⟨p,j,v,h4,_⟩
  ·exact h4
  ·rw[gX hn]at h4; cases h4
 have hrun:(Instr.mapUpdate T (.map (some r)) (.string key) (a.eval y)).run P w=.ok () (w.putObj r (.map (es.push ⟨.string key,a.eval y,clock⟩) (clock+1))):=by
  unfold Instr.mapUpdate
  simp only[Sem.run_bind,run_underlying hT,Result.andThen_ok,MapKept.run_getObj_map h2,MapKept.run_checkKey hK (show MapKept.IsKey .string (.string key)from trivial),MapKept.run_findKey hK hfind,MapKept.run_setObj_map _ h2]
  rfl
 have hnew:(w.putObj r (.map (es.push ⟨.string key,a.eval y,clock⟩) (clock+1))).heap[r]?=some (.map (es.push ⟨.string key,a.eval y,clock⟩) (clock+1)):=World.putObj_heap_same hlt
 have hB:β d r:=(h1 r).2 rfl
 have ox:=hI.move (n0:=0) (B':=β d) (R':=λB w _=>qi r (q++[(key,a.eval y)]) B w) (w':=w.putObj r (.map (es.push ⟨.string key,a.eval y,clock⟩) (clock+1))) (by show((true&&(true&&true))&&fh V)=true; rw[hV]; rfl) (by show((true&&true)&&fQ G)=true; rw[hG]; rfl) rfl (λz n hz he=>by
   cases n with
   |zero=>rfl
   |succ n=>
    have:=List.all_eq_true.1 hu z (List.mem_of_getElem? hz)
    simp only[bne_iff_ne]at this
    exact absurd he this) (oI _ hB) (λk hk=>.inl hk) (λk hk=>by
   have e:=(h1 k).1 hk
   subst e
   exact⟨by rw[World.putObj_size]; exact hlt,λo v hv=>absurd hv (jd hnew rfl v)⟩)
  (oK hB ⟨h1,_,_,hnew,by rw[Array.toList_push,List.map_append,List.map_append,h3]; rfl⟩)
 have FR:aS c _ [] G none_ _ a _:=ox.pD λe he ho hf=>ox.gK e (List.mem_cons_of_mem _ he) ho hf
 have hp:=hy.spec FR gW
 have hr':(execOp a.eval ⟨none,.insert T (.tmp d) (.const (.string key)) y,ty,pos,au,none⟩).run P w=.ok .skip (w.putObj r (.map (es.push ⟨.string key,a.eval y,clock⟩) (clock+1))):=by
  show(do Instr.mapUpdate T (a.eval (.tmp d)) (.string key) (a.eval y); pure Next.skip).run P w=_
  rw[show a.eval (.tmp d)=.map (some r)from Da,Sem.run_bind,hrun]
  rfl
 refine .of rfl ?_
 unfold Does
 rw[hr']
 refine⟨(r,q++[(key,a.eval y)]),_,ox.pD λe he ho hf=>?_⟩
 rcases List.mem_cons.1 he with rfl|he
 ·intro w'' hx
  exact⟨Da,(((ox.gK _ List.mem_cons_self rfl rfl) w'' hx).2).snoc (hp w'' hx)⟩
 ·exact ox.gK e (List.mem_cons_of_mem _ he) ho hf
end
end Wx
