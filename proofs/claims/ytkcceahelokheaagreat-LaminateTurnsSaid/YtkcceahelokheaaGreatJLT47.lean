import Derived.Test.YtkcceahelokheaaGreatJLT44
namespace Wx
open Go Go.RowKit
set_option linter.unusedVariables false
def MC (sz n:Nat) (ag:Bool) (f:Nat->Pred):Pred:=λw v=>∃cs:List Value,v=aj true cs/\∀q,q<n->f q w (aj ag ((cs.drop (q*sz)).take sz))
theorem xu {sz n:Nat} {ag:Bool} {f:Nat->Pred} (h:∀q,aK (f q)):aK (MC sz n ag f):=λM w _ hM ⟨cs,e,hc⟩ w' he=>⟨cs,e,λq hq=>h q M w _ hM (hc q hq) w' he⟩
def Rc (sz n:Nat) (ag:Bool) (f:Nat->Pred) (w:World) (e:Ending) (w':World):Prop:=∃b cap,e=.returned (.slice (some ⟨b,0,none⟩) n cap)/\Below w.heap.size w w'/\w.heap.size<=b/\(n<=cap/\cap<=maxLen)/\One b (cap*sz) (MC sz n ag f) w'
section
variable {P:Program} {c:fT} {V:List Vr} {A:List Al} {G:List bz} {a:Act} {w:World} {β:Nat->Nat->Prop} {x y z:Operand} {d:Nat} {ty:TypeId} {pos:String} {aft:Array Edge}{id n sz:Nat} {ag:Bool} {f:Nat->Pred}
theorem aby {fn:Func} {s n0:Nat} {w0:World} {N:Nat} {M:Nat->Nat->Prop} {T:TypeId} {m':Nat} {agg:Bool} {p0:Rel} {st:List (Nat×Rel)} (hI:Inv ⟨N,w0,M,λ_=>False⟩ V [] G none_ a w) (hr:fn.results=#[.tmp s]) (hk:V[n0]?=some ⟨id,s,none,none,.grow n sz,T,m',ag,p0,st⟩) (hn:0<n) {k:Nat} (hg:G[k]?=some ⟨none,none,s,aA sz agg n f⟩):bodyPost P fn (Rc sz n agg f w0) .ret a w:=by
 obtain⟨β,hI⟩:=hI
 obtain⟨b,cap,cur,h1,h2,h3,h4,h5,h6,h7,h8⟩:=zn hI hk hn hg
 refine iM hI (v:=sl a s) ?_ ⟨b,cap,by rw[h1],hI.below.below (λ_ h=>h),h2,⟨h5,h6⟩,cur,T,h3,h4,h7,cur,rfl,h8⟩
 rw[eD,hr]
 simp[wR,sl]
variable {b:Nat}
theorem bu.UD {q:Pred} {v:Value} {w':World} (h:bu c V [] G none_ β a w) (hb:Below w.heap.size w w') (hB:w.heap.size<=b) (hO:One b n q w') (hq:aK q) (hd:d<c.N)
  (hV:(V.all λy=>(y.slot != d&&y.id != d)&&(y.born.isNone&&y.dead.isNone))=true) (hG:(G.all λe=>e.slot != d)=true):
  Inv c (fC d b n q::V) [] (⟨none,none,d,bg v⟩::G) none_ (a.put (some d) v) w':=by
 have hV:∀y,y∈V->(y.slot≠d/\y.id≠d)/\live none_ y=true:=λy hy=>by
  rw[List.all_eq_true]at hV
  have:=hV y hy
  simp only[Bool.and_eq_true,bne_iff_ne]at this
  refine⟨this.1,?_⟩
  unfold live
  cases hb:y.born with
  |some j=>rw[hb]at this; cases this.2.1
  |none=>cases hd:y.dead with
   |some j=>rw[hd]at this; cases this.2.2
   |none=>rfl
 have hG:∀e,e∈G->e.slot≠d:=λe he=>by
  rw[List.all_eq_true]at hG
  simpa using hG e he
 let β':Nat->Nat->Prop:=λs=>if s=d then(·=b)else β s
 have hβ:∀y,y∈V->β' y.id=β y.id:=λy hy=>if_neg (hV y hy).1.2
 have Em:β' d=(·=b):=if_pos rfl
 have e3:Ext (own c V none_ β) w w':=Ext.bC hb
 have hown:∀k j,k<w.heap.size->own c (fC d b n q::V) none_ β' k j->own c V none_ β k j:=by
  rintro k j hk (h1|⟨y,hy,h1,h2,h3⟩)
  ·exact .inl h1
  ·rcases List.mem_cons.1 hy with rfl|hy
   ·have h2:β' d k:=h2
    rw[Em]at h2
    have h2:k=b:=h2
    omega
   ·rw[hβ y hy]at h2
    exact .inr ⟨y,hy,h1,h2,h3⟩
 have ki:cL (own c (fC d b n q::V) none_ β') w':=by
  rintro k j hk
  rcases Nat.lt_or_ge k w.heap.size with h'|h'
  ·obtain⟨h1,h2⟩:=aS h k j (hown k j h' hk)
   refine⟨Nat.lt_of_lt_of_le h1 hb.size,λu hu=>h2 u ?_⟩
   rw[World.cell?_of_block (w:=w) (a:=⟨k,j,none⟩) (hb.block k h')]at hu
   exact hu
  ·rcases hk with h1|⟨y,hy,h1,h2,h3⟩
   ·exact absurd (tC h (.inl h1)) (by omega)
   ·rcases List.mem_cons.1 hy with rfl|hy
    ·have h2:β' d k:=h2
     rw[Em]at h2
     have h2:k=b:=h2
     subst h2
     exact⟨hO.lt,λu hu=>hO.tS j u hu⟩
    ·rw[hβ y hy]at h2
     exact absurd (cG h hy h1 h2) (by omega)
 have sd:∀s,s≠d->sl (a.put (some d) v) s=sl a s:=λs hs=>cz λe=>hs (Option.some.inj e).symm
 refine⟨β',by rw[iH]; exact h.size,by rw[put_defers]; exact h.defers,h.below.trans (dN.bC hb),h.oa λk hk hn=>hb.block k (Nat.lt_of_lt_of_le hk h.below.size),?_,?_,(λp hp=>by cases hp),?_⟩
 ·intro y hy _
  rcases List.mem_cons.1 hy with rfl|hy
  ·refine(aN rfl).2 ⟨λk hk=>?_,?_⟩
   ·have hk:β' d k:=hk
    rw[Em]at hk
    have hk:k=b:=hk
    subst hk
    exact⟨.inl (Nat.le_trans h.below.size hB),hO.lt,λo u hu=>hO.tS o u hu⟩
   ·show aO (minus _ (β' d)) (λw=>(∀k,β' d k↔k=b)/\One b n q w) w'
    rw[Em]
    have:=hO.box (B:=(·=b)) rfl hq ki
    exactλw'' he=>⟨λk=>Iff.rfl,this w'' he⟩
  ·have T1:=(hV y hy).2
   refine(h.var y hy T1).keep (sd _ (hV y hy).1.1) (hβ y hy) (λg hg=>hb.block g (cG h hy T1 hg)) hb.size (λF hF=>gF e3 hown hF) (λF hF=>?_) rfl
   refine gF (M:=minus (own c V none_ β) (β y.id)) (Ext.bC hb) ?_ hF
   rintro k j hk ⟨h1,h2⟩
   exact⟨hown k j hk h1,h2⟩
 ·intro y y' g hy hy' _ _ hne
  rcases List.mem_cons.1 hy with rfl|hy<;>rcases List.mem_cons.1 hy' with rfl|hy'
  ·exact absurd rfl hne
  ·intro h1 h2
   have h1:β' d g:=h1
   rw[Em]at h1
   rw[hβ y' hy']at h2
   have h1:g=b:=h1
   exact absurd (cG h hy' (hV y' hy').2 h2) (by omega)
  ·intro h1 h2
   have h2:β' d g:=h2
   rw[Em]at h2
   rw[hβ y hy]at h1
   have h2:g=b:=h2
   exact absurd (cG h hy (hV y hy).2 h1) (by omega)
  ·rw[hβ y hy,hβ y' hy']
   exact h.apart y y' g hy hy' (hV y hy).2 (hV y' hy').2 hne
 ·intro e he ho hf
  rcases List.mem_cons.1 he with rfl|he
  ·refineλw'' _=>?_
   show sl (a.put (some d) v) d=v
   exact fO (by rw[h.size]; exact hd)
  ·have:=h.jM e he ho hf
   show aO _ (λw=>e.p w (sl (a.put (some d) v) e.slot)) w'
   rw[sd _ (hG e he)]
   exact gF e3 hown this
variable {ts:Array TypeId} {ops:Array Oper} {p1 q1:Pred} {g:Nat->Pred} {φ:Prop}
theorem Jm {f:FuncId} (sk:φ->∀(M:Nat->Nat->Prop) w v1,cL M w->aO M (λw=>p1 w v1) w->Calls P f #[v1] w (Rc sz n ag g w)) (hφ:φ) (hg:∀q,aK (g q)) (h1:Has [0] G 0 x q1:=by exact hs) (c1:∀w v,q1 w v->p1 w v:=by exactλ_ _ h=>h) (hf:aR P f:=by exactλ_ _=>by kernel_rfl) (hd:decide (d<c.N)=true:=by kernel_rfl)
  (hV:(V.all λy=>(y.slot != d&&y.id != d)&&(y.born.isNone&&y.dead.isNone))=true:=by kernel_rfl) (hG:(G.all λe=>e.slot != d)=true:=by kernel_rfl):∀a w,Inv c V [] G none_ a w ->
  bV P ops ⟨some d,.call ⟨.value (.func f),#[x],ts⟩,ty,pos,aft,none⟩ a w (λa w=>∃b cap,(n<=cap/\cap<=maxLen)/\Inv c (fC d b (cap*sz) (MC sz n ag g)::V) [] (⟨none,none,d,bg (.slice (some ⟨b,0,none⟩) n cap)⟩::G) none_ a w):=by
 rintro a w ⟨β,hI⟩
 refine .of rfl (jX hf (Calls.mono (by
  rw[show(#[x]:Array Operand).map a.eval=#[a.eval x] by simp]
  exact sk hφ _ w _ (aS hI) ((h1.spec hI oG).imp λw=>c1 w _)) ?_))
 rintro e w' ⟨b,cap,rfl,hb,hrb,hc,ho⟩
 exact⟨_,rfl,b,cap,hc,hI.UD hb hrb ho (xu hg) (of_decide_eq_true hd) hV hG⟩
theorem chN {f:FuncId} {e:Nat} {NG:TypeId} {pos2:String} {xE:Array Edge} (sk:φ->∀(M:Nat->Nat->Prop) w v1,cL M w->aO M (λw=>p1 w v1) w->Calls P f #[v1] w (Rc sz n ag g w)) (hφ:φ) (hg:∀q,aK (g q)) (h1:Has [0] G 0 x q1:=by exact hs) (c1:∀w v,q1 w v->p1 w v:=by exactλ_ _ h=>h) (hf:aR P f:=by exactλ_ _=>by kernel_rfl) (hd:decide (d<c.N)=true:=by kernel_rfl) (he:decide (e<c.N/\d≠e)=true:=by kernel_rfl)
  (hV:(V.all λy=>(y.slot != d&&y.id != d)&&(y.born.isNone&&y.dead.isNone))=true:=by kernel_rfl) (hG:(G.all λe=>e.slot != d)=true:=by kernel_rfl) (hV2:(V.all λy=>y.slot != e)=true:=by kernel_rfl) (OL:(G.all λy=>y.slot != e)=true:=by kernel_rfl):
  js P ops (Inv c V [] G none_) [⟨some d,.call ⟨.value (.func f),#[x],ts⟩,ty,pos,aft,none⟩,⟨some e,.assign (.tmp d),NG,pos2,xE,none⟩] (λa w=>∃b cap,(n<=cap/\cap<=maxLen)/\Inv c (fC d b (cap*sz) (MC sz n ag g)::V) [] (⟨none,none,e,bg (.slice (some ⟨b,0,none⟩) n cap)⟩::G) none_ a w):=by
 refine⟨_,Jm sk hφ hg h1 c1 hf hd hV hG,_,?_,rfl⟩
 rintro a w ⟨b,cap,hc,β,hI⟩
 have he:=of_decide_eq_true he
 have hv:a.eval (.tmp d)=.slice (some ⟨b,0,none⟩) n cap:=(hI.jM ⟨none,none,d,bg _⟩ (List.mem_cons_self ..) rfl rfl).out
 have TF:=hI.Km (G':=G) λe he=>List.mem_cons_of_mem _ he
 refine .of rfl ?_
 unfold Does
 have hr:(execOp a.eval ⟨some e,.assign (.tmp d),NG,pos2,xE,none⟩).run P w=.ok (.value (.slice (some ⟨b,0,none⟩) n cap)) w:=by rw[<-hv]; rfl
 rw[hr]
 refine⟨b,cap,hc,β,TF.DR he.1 (λx hx=>?_) (λy hy=>by have:=List.all_eq_true.1 OL y hy; simpa using this) λ_ _=>rfl⟩
 rcases List.mem_cons.1 hx with rfl|hx
 ·exact he.2
 ·have:=List.all_eq_true.1 hV2 x hx
  simpa using this
theorem SN {cap:Nat} (hI:Inv c V [] G none_ a w) (k slot:Nat) (hk:V[k]?=some (fC id b (cap*sz) (MC sz n ag f))) (hu:((V.eraseIdx k).all λy=>y.id != id)=true) (hc:n<=cap/\cap<=maxLen) (h1:kT slot G=some (bg (.slice (some ⟨b,0,none⟩) n cap)):=by exact rfl):Inv c (V.eraseIdx k) [] (⟨none,none,slot,aA sz ag n f⟩::G) none_ a w:=by
 obtain⟨β,h⟩:=hI
 have hx:=List.mem_of_getElem? hk
 have hsub:∀y,y∈V.eraseIdx k->y∈V/\y.id≠id:=λy hy=>⟨List.mem_of_mem_eraseIdx hy,by
  have:=List.all_eq_true.1 hu y hy
  simpa using this⟩
 have hO:=(aN rfl).1 (h.var _ hx rfl)
 have hB:aO (minus (own c V none_ β) (β id)) (λw=>(∀k,β id k↔k=b)/\One b (cap*sz) (MC sz n ag f) w) w:=hO.2
 have fF:∀k,β id k->mine c k:=λk hk'=>(hO.1 k hk').1
 obtain⟨k1,ot⟩:=gG h1
 have es:sl a slot=.slice (some ⟨b,0,none⟩) n cap:=(h.jM _ (List.mem_of_getElem? ot) rfl rfl).out
 have eo:∀k' o,own c (V.eraseIdx k) none_ β k' o->minus (own c V none_ β) (β id) k' o:=by
  rintro k' o (hM|⟨y,hy,q1,q2,q3⟩)
  ·exact⟨.inl hM,λhb=>jE h (fF k' hb) hM⟩
  ·obtain⟨hy,hid⟩:=hsub y hy
   exact⟨.inr ⟨y,hy,q1,q2,q3⟩,λhb=>h.apart y _ k' hy hx q1 rfl hid q2 hb⟩
 refine⟨β,h.size,h.defers,h.below,h.old,λy hy hl=>(h.var y (hsub y hy).1 hl).keep rfl rfl (λ_ _=>rfl) (Nat.le_refl _) (λF hF=>hF.sub λk o _ hh=>(eo k o hh).1) (λF hF=>hF.sub λk o _ hh=>⟨(eo k o hh.1).1,hh.2⟩) rfl,λy z g hy hz=>h.apart y z g (hsub y hy).1 (hsub z hz).1,(λp hp=>by cases hp),λe he ho hf'=>?_⟩
 rcases List.mem_cons.1 he with rfl|he
 ·intro w' hw'
  show aA sz ag n f w' (sl a slot)
  rw[es]
  obtain⟨_,cs,T,d3,d4,d5,cs',e',d8⟩:=hB w' (hw'.mono λk o _ hh=>eo k o hh)
  have:=bG (show aj true cs=aj true cs' from e')
  subst this
  refine⟨_,cap,rfl,hc.1,hc.2,λ_=>⟨b,0,rfl,λq hq=>⟨(cs.drop (q*sz)).take sz,?_,λj v hj=>?_,d8 q hq⟩⟩⟩
  ·have:=Nat.mul_le_mul_right sz (Nat.lt_of_lt_of_le hq hc.1)
   rw[Nat.succ_mul]at this
   rw[List.length_take,List.length_drop]
   omega
  ·rw[Nat.zero_add]
   exact fY d3 _ _ j v hj
 ·exact(h.jM e he ho hf').sub λk o _ hh=>(eo k o hh).1
end
section
variable {P:Program} {ops:Array Oper} {ms:List Nat} {c:fT} {V:List Vr} {A:List Al} {G:List bz} {i:Nat}{x y z:Operand} {d:Nat} {ty:TypeId} {pos:String} {aft:Array Edge}{sz n k o m:Nat} {f g:Nat->Pred} {p:Pred}
theorem SA (hk:k<n) (ho:o+m<=sz) (gg:∀q,q<n->q≠k->∀w v,f q w v->g q w v)
  (hp:∀w cs ds,cs.length=sz->ds.length=m->f k w (aj true cs)->p w (aj true ds)->g k w (aj true (cs.take o++ds++cs.drop (o+m)))) {N:Nat} (hN:n*sz<=N):
  ∀w cs ds,cs.length=N->ds.length=m->MC sz n true f w (aj true cs)->p w (aj true ds)->MC sz n true g w (aj true (cs.take (k*sz+o)++ds++cs.drop (k*sz+o+m))):=by
 rintro w cs ds hl hd ⟨cs',e,hc⟩ hpd
 have:=bG (show aj true cs=aj true cs' from e)
 subst this
 have hks:(k+1)*sz<=n*sz:=Nat.mul_le_mul_right _ hk
 rw[Nat.succ_mul]at hks
 refine⟨_,rfl,λq hq=>?_⟩
 have hqs:(q+1)*sz<=n*sz:=Nat.mul_le_mul_right _ hq
 rw[Nat.succ_mul]at hqs
 by_cases e:q=k
 ·subst e
  have h1:=hp w ((cs.drop (q*sz)).take sz) ds (by rw[List.length_take,List.length_drop]; omega) hd (hc q hq) hpd
  refine cast (congrArg (λl=>g q w (aj true l)) ?_) h1
  apply List.ext_getElem?
  intro t
  simp only[List.getElem?_append,List.getElem?_take,List.getElem?_drop,List.length_append,List.length_take,List.length_drop]
  by_cases t1:t<o
  ·have c1:t<min o (min sz (cs.length-q*sz)):=by omega
   have c2:t<min o (min sz (cs.length-q*sz))+ds.length:=by omega
   have c3:t<sz:=by omega
   have c4:q*sz+t<min (q*sz+o) cs.length:=by omega
   have c5:q*sz+t<min (q*sz+o) cs.length+ds.length:=by omega
   have c6:q*sz+t<q*sz+o:=by omega
   simp only[c1,c2,c3,c4,c5,c6,t1,if_true]
  ·by_cases t2:t<o+m
   ·have c1:¬t<min o (min sz (cs.length-q*sz)):=by omega
    have c2:t<min o (min sz (cs.length-q*sz))+ds.length:=by omega
    have c3:t<sz:=by omega
    have c4:¬q*sz+t<min (q*sz+o) cs.length:=by omega
    have c5:q*sz+t<min (q*sz+o) cs.length+ds.length:=by omega
    have c6:t-min o (min sz (cs.length-q*sz))=q*sz+t-min (q*sz+o) cs.length:=by omega
    simp only[c1,c2,c3,c4,c5,if_true,if_false,c6]
   ·have c2:¬t<min o (min sz (cs.length-q*sz))+ds.length:=by omega
    have c5:¬q*sz+t<min (q*sz+o) cs.length+ds.length:=by omega
    by_cases t3:t<sz
    ·have c6:o+m+(t-(min o (min sz (cs.length-q*sz))+ds.length))<sz:=by omega
     have c7:q*sz+(o+m+(t-(min o (min sz (cs.length-q*sz))+ds.length)))=q*sz+o+m+(q*sz+t-(min (q*sz+o) cs.length+ds.length)):=by omega
     simp only[c2,c5,t3,if_false,if_true,c6,c7]
    ·have c6:¬o+m+(t-(min o (min sz (cs.length-q*sz))+ds.length))<sz:=by omega
     simp only[c2,c5,t3,if_false,c6]
 ·refine gg q hq e w _ (cast (congrArg (λl=>f q w (aj true l)) ?_) (hc q hq))
  have hne:q*sz+sz<=k*sz\/k*sz+sz<=q*sz:=by
   rcases Nat.lt_or_ge q k with h|h
   ·left
    have:=Nat.mul_le_mul_right sz (Nat.succ_le_of_lt h)
    rwa [Nat.succ_mul]at this
   ·right
    have:=Nat.mul_le_mul_right sz (show k+1<=q by omega)
    rwa [Nat.succ_mul]at this
  apply List.ext_getElem?
  intro t
  simp only[List.getElem?_append,List.getElem?_take,List.getElem?_drop,List.length_append,List.length_take]
  by_cases t3:t<sz
  ·rcases hne with h|h
   ·have c1:q*sz+t<min (k*sz+o) cs.length:=by omega
    have c2:q*sz+t<min (k*sz+o) cs.length+ds.length:=by omega
    have c3:q*sz+t<k*sz+o:=by omega
    simp only[t3,c1,c2,c3,if_true]
   ·have c2:¬q*sz+t<min (k*sz+o) cs.length+ds.length:=by omega
    have c3:k*sz+o+m+(q*sz+t-(min (k*sz+o) cs.length+ds.length))=q*sz+t:=by omega
    simp only[t3,c2,if_true,if_false,c3]
  ·simp only[t3,if_false]
theorem sN {T:TypeId} {v:Vr} {b N off:Nat} {r:List (Nat×Rel)} (id:Nat) (g':Nat->Pred) (hg:g=g') (k' o':Nat) (hko:k=k'/\o=o') (ql:∀q,aK (g q)) (gg:∀q,q<n->q≠k->∀w v,f q w v->g q w v) (hput:∀w cs ds,cs.length=sz->ds.length=m->f k w (aj true cs)->p w (aj true ds)->g k w (aj true (cs.take o++ds++cs.drop (o+m)))) (hk:k<n) (hN:n*sz<=N)
  (hv:mU id V=some v:=by exact rfl) (ho:bE ms i v=true:=by exact rfl) (bR:v.kd=.obj:=by exact rfl) (hst:(v.st.all λq=>(q.1==i||(ms.getD i 0).testBit q.1)||(ms.getD q.1 0).testBit i)=true:=by kernel_rfl)
  (hc:cont (λj=>(ms.getD i 0).testBit j) v.c0 v.st=xP b N (MC sz n true f):=by exact rfl) (h:Has ms G i y (bg (.pointer (some ⟨b,off,none⟩))):=by exact hs) (hz:Has ms G i z p:=by exact hs) (hm:NF i v.st=some (xP b N (MC sz n true g),r):=by exact rfl) (hoff:off=k*sz+o:=by omega) (hsz:o+m<=sz:=by omega) (hf:Fits m true p:=by exact oK) (ht:Gu P T true m=true:=by kernel_rfl)
  (hr:(r.all λr=>(ms.getD r.1 0).testBit i)=true:=by kernel_rfl) (Y6:(V.all λy=>y.id==v.id||y.st.all λq=>q.1 != i)=true:=by kernel_rfl):OpOk P ops ms c V A G i ⟨none,.store T y z,ty,pos,aft,none⟩:=by
 obtain⟨⟨k2,hk2⟩,_⟩:=fS hv
 obtain⟨m2,h5,h6⟩:=ve hm
 subst hoff
 have hks:=Nat.mul_le_mul_right sz (Nat.succ_le_of_lt hk)
 rw[Nat.succ_mul]at hks
 exact Ce k2 hk2 ho bR hst m2 h5 (by rw[h6]; exact hr) Y6 hc h (by omega) (aY ht) hz hf (SA hk hsz gg hput hN) (xu ql)
end
end Wx

namespace Wx
set_option maxRecDepth 100000
set_option maxHeartbeats 1000000
open Go Go.RowKit Go.Proofs
set_option linter.unusedVariables false
attribute [local irreducible] OpOk
theorem adU {P:Program} {fn:Func} {w:World} {f:FuncId} {C:Code} {v0:Value} {M:Nat->Nat->Prop} {R:World->Ending->World->Prop} {p0:Pred} {N:Nat} (hf:P.funcs[f]?=some fn) (hb:fn.body=some C) (hN:fn.ntmps=N) (hlen:decide ([v0].length<=N)=true) (hM:cL M w) (h0:aO M (λw=>p0 w v0) w) (h:∀a,Inv ⟨N,w,M,λ_=>False⟩ [] [] [Uz 0 p0] none_ a w->C.ww none [] P (bodyPost P fn (R w)) a w):Calls P f #[v0] w (R w):=
 dr (vs:=[v0]) hf hb hN hlen hM (show cF M w [v0] [Uz 0 p0]from⟨⟨rfl,_,rfl,h0⟩,trivial⟩) λa hI=>(wpIn_wide (n:=0)).1 (wpIn_mono (h a hI 0) λe a' w' ⟨a0,e0,h0⟩=>by subst e0; exact h0)
theorem Oz (x:bK):Fits 4 true (cP x):=vY (fs:=[⟨false,1,pI x.gP⟩,⟨false,1,pI x.p⟩,⟨false,1,pI x.q⟩,⟨false,1,pI x.t⟩]) ⟨fits_int _,fits_int _,fits_int _,fits_int _,trivial⟩ rfl
theorem Pz (x:bK):aK (cP x):=Mw ⟨bU _,bU _,bU _,bU _,trivial⟩
theorem RY {S:List bK} (h:0<S.length/\S.length<=1000000):∀(M:Nat->Nat->Prop) (w:World) (v0:Value),cL M w->aO M (λw=>(aA 4 true S.length λi=>cP (ai S i)) w v0) w->Calls Tryz.prog 76 #[v0] w (Rc 4 S.length true (λi=>cP (ai S i)) w):=by
 intro M w0 v0 hM hv0
 refine adU (N:=8) Tryz.func76 rfl rfl rfl hM hv0 λa hI=>?_
 refine bM hI 1 [Uc 0 2 _] (.k .z) ⟨mv,trivial⟩ (.kk .z) λa w hI=>?_
 refine az ?_
 refine bM hI 2 [Uc 0 3 _,Uc 1 4 _] (.kk .z) ⟨mv,Cc (E:=68) hs h.1 (by kernel_rfl) (pt rfl),trivial⟩ (.sq .z) λa w hI=>?_
 refine wcF hI (rfl) ?_
 refine aJ ?_
 refine ae ?_
 refine bf hI 4 [⟨7,7,some 2,some 3,.grow (S.length) 4,68,3,true,pv cY,[]⟩,⟨2,2,some 3,none,.grow (S.length) 4,68,3,true,pv cY,[]⟩] [] [Uc 0 5 _,Uc 1 6 _,Uc 2 7 _,Uc 3 2 _] .z (.k (.t 3 (.k .z))) ⟨bs0 (sz:=4) 68,mv,apE (F:=cP) (e:=λk=>ai S k) S FW Oz (hn:=h.1) (hmax:=by omega),XB,trivial⟩ (.d (.k .z)) (.bh (.lQ .z)) λa w hI=>?_
 refine aL ?_
 exact aby hI rfl (n0:=0) rfl h.1 (k:=0) rfl
end Wx

namespace Wx
set_option maxRecDepth 100000
set_option maxHeartbeats 1000000
open Go Go.RowKit Go.Proofs
set_option linter.unusedVariables false
attribute [local irreducible] OpOk
variable {b:Bool}
theorem nbT (h:(!b)=true):b=false:=by simpa using h
theorem nbF (h:(!b)=false):b=true:=by simpa using h
def FK (x:Int):Prop :=-4611686018427387904<=x/\x<=4611686018427387904
abbrev qG (a b:Int):Int:=((Int.gcd a b:Nat):Int)
abbrev CD (a b:Int):Prop:=∀(M:Nat->Nat->Prop) (w:World) (v0 v1:Value),cL M w->aO M (λw=>pI a w v0) w->aO M (λw=>pI b w v1) w->Calls Tryz.prog 77 #[v0,v1] w (bH M (pI (qG a b)) w)
theorem gcd_zero (a b:Int) (hb:b=0):wA a (-a)=qG a b:=by
 subst hb
 have h:=Mn a (-a)
 have e:qG a 0=((a.natAbs:Nat):Int):=by
  show((Nat.gcd a.natAbs (Int.natAbs 0):Nat):Int)=_
  rw[show Int.natAbs 0=0 from rfl,Nat.gcd_zero_right]
 rw[e]
 omega
theorem Gq (a b:Int):(a.tmod b).natAbs=a.natAbs%b.natAbs:=Int.natAbs_tmod a b
theorem OE (a b:Int):qG b (a.tmod b)=qG a b:=by
 show((Nat.gcd b.natAbs (a.tmod b).natAbs:Nat):Int)=((Nat.gcd a.natAbs b.natAbs:Nat):Int)
 rw[Gq,Nat.gcd_comm b.natAbs,<-Nat.gcd_rec,Nat.gcd_comm]
theorem tdiv_le (a b:Int):(a.tdiv b).natAbs<=a.natAbs:=by
 rw[Int.natAbs_tdiv]
 exact Nat.div_le_self _ _
variable {P:Program} {xt:TypeId} {a:Int}
theorem N2 {k:IntKind} {b:Int} (h:b≠0) (w:World):(Go.binOp .quo xt (.int k a) (.int k b)).run P w=.ok (.int k (k.wrap (a.tdiv b))) w:=by
 have e:Go.binOp .quo xt (.int k a) (.int k b)=Op.intDiv .quo k a b:=by
  show(if k≠k then _ else _)=_
  rw[if_neg (by simp)]
 rw[e]
 unfold Op.intDiv
 rw[if_neg h]
 rfl
theorem JR {b:Int} (h:b≠0) (ha:FK a) (w:World):(Go.binOp .quo xt (.int .i64 a) (.int .i64 b)).run P w=.ok (.int .i64 (a.tdiv b)) w:=by
 have h1:=tdiv_le a b
 unfold FK at ha
 rw[N2 h,IntWalk.i64_in _ (by omega)]
theorem VO {u r:Int} (ih:∀u' r':Int,r'.natAbs<r.natAbs->FK u'/\FK r'->CD u' r') (h:FK u/\FK r):K2 Tryz.prog 77 (pI u) (pI r) (pI (qG u r)):=by
 intro M w0 v0 v1 hM hv0 eI
 have ha:=h.1
 have hb:=h.2
 unfold FK at ha hb
 refine rG (N:=16) Tryz.func77 rfl rfl rfl hM hv0 eI λa hI=>?_
 refine bM hI 1 [Uc 0 4 _] (.kk .z) ⟨mv,trivial⟩ (.bS .z) λa w hI=>?_
 refine az ?_
 refine bM hI 2 [Uc 0 5 _,Uc 1 6 _] (.bS .z) ⟨mv,bn,trivial⟩ (.cA (.k .z)) λa w hI=>?_
 refine mj hI (λt1=>?_) (λt1=>?_)
 ·
  refine bM hI 5 [Uc 0 7 _,Uc 1 8 _,Uc 2 9 _,Uc 3 10 _,Uc 4 4 _] (.kk (.t 4 (.k .z))) ⟨mv,mv,ng,mx2,mv,trivial⟩ (.dI (.bh (.k .z))) λa w hI=>?_
  refine aL ?_
  refine aB ?_
  exact ck hI rfl (iu (hq:=bk (gcd_zero u r t1)))
 ·
  have h1:=Gq u r
  have h2:u.natAbs%r.natAbs<r.natAbs:=Nat.mod_lt _ (by omega)
  have hlt:(u.tmod r).natAbs<r.natAbs:=by omega
  have hok:FK r/\FK (u.tmod r):=⟨h.2,by unfold FK; omega⟩
  refine aJ ?_
  refine ae ?_
  refine bM hI 6 [Uc 0 11 _,Uc 1 12 _,Uc 2 13 _,Uc 3 14 _,Uc 4 15 _,Uc 5 4 _] (.kk (.t 5 (.k .z))) ⟨mv,mv,mv,dJ hs hs (Rj t1) (pt rfl),pq (ih r (u.tmod r) hlt) (hφ:=hok),mv,trivial⟩ (.d8 (.dk .z)) λa w hI=>?_
  refine aL ?_
  exact ck hI rfl (iu (hq:=bk (OE u r)))
theorem Mb:∀{a b:Int},FK a/\FK b->CD a b:=by
 have key:∀(n:Nat) (a b:Int),b.natAbs<n->FK a/\FK b->CD a b:=by
  intro n
  induction n with
  |zero=>exactλa b h=>absurd h (Nat.not_lt_zero _)
  |succ n ih=>exactλa b h hab=>VO (λa' b' h'=>ih a' b' (by omega)) hab
 exactλ{a b} h=>key _ a b (Nat.lt_succ_self _) h
def bP (p q:Int) (x:bK):bK:=⟨x.gP,(x.p*p-x.q*q).tdiv (qG (x.p*p-x.q*q) (x.p*q+x.q*p)),(x.p*q+x.q*p).tdiv (qG (x.p*p-x.q*q) (x.p*q+x.q*p)),x.t⟩
def rC (S:List bK) (p q:Int) (i k:Nat):bK:=if k<i then bP p q (ai S k)else ai S k
def Gs (S:List bK) (p q:Int):Bool:=xF (λk=>fM (bP p q (ai S k)).p (bP p q (ai S k)).q) S.length
def ic (S:List bK) (p q:Int):Int:=if kB S≠0 then kB S else if !fM p q then 1 else if !Gs S p q then 1 else 0
def cM (S:List bK) (p q:Int):List bK:=S.map (bP p q)
variable {S:List bK} {p q:Int}
theorem r5 {i:Nat} (h:i<S.length):ai (cM S p q) i=bP p q (ai S i):=by
 unfold ai cM
 rw[List.getD_eq_getElem?_getD,List.getD_eq_getElem?_getD,List.getElem?_map,List.getElem?_eq_getElem h]
 rfl
variable {x:bK}
theorem SF {P Q:Int}:∀(w:World) (cs ds:List Value),cs.length=4->ds.length=2->cP x w (aj true cs)->pS [⟨false,1,pI P⟩,⟨false,1,pI Q⟩] w (aj true ds)->cP ⟨x.gP,P,Q,x.t⟩ w (aj true (cs.take 1++ds++cs.drop (1+2))):=by
 rintro w cs ds h1 h2 ⟨cs',e,hc⟩ ⟨ds',e',hd⟩
 have:=bG (show aj true cs=aj true cs' from e)
 subst this
 have:=bG (show aj true ds=aj true ds' from e')
 subst this
 match cs,h1,ds,h2 with
 |[c0,c1,c2,c3],_,[d0,d1],_=>
  obtain⟨_,k1,_,_,_,_,_,k4,_⟩:=hc
  obtain⟨_,k5,_,k6,_⟩:=hd
  exact⟨_,rfl,by simp,k1,by simp,k5,by simp,k6,by simp,k4,rfl⟩
theorem P4 (h:kB S=0):(1<=S.length/\S.length<=64)/\∀i,i<S.length->lZ (ai S i)=0:=by
 unfold kB at h
 split at h
 ·exact absurd h (by decide)
 ·rename_i h1
  simp only[Bool.or_eq_true,decide_eq_true_eq,not_or]at h1
  refine⟨by omega,?_⟩
  have key:∀(S:List bK),pF S=0->∀i,i<S.length->lZ (ai S i)=0:=by
   intro S
   induction S with
   |nil=>exactλ_ i hi=>absurd hi (Nat.not_lt_zero _)
   |cons x S ih=>
    intro h i hi
    unfold pF at h
    split at h
    ·rename_i h2
     cases i with
     |zero=>exact h2
     |succ i=>exact ih h i (by simpa using hi)
    ·rename_i h2
     exact absurd h h2
  exact key S h
theorem Gt (hx:fM x.p x.q=true) (hd:fM p q=true):qG (x.p*p-x.q*q) (x.p*q+x.q*p)≠0:=by
 intro h
 have h0:Int.gcd (x.p*p-x.q*q) (x.p*q+x.q*p)=0:=by exact_mod_cast h
 have h1:=(Int.gcd_eq_zero_iff.1 h0).1
 have h2:=(Int.gcd_eq_zero_iff.1 h0).2
 have e:(x.p*x.p+x.q*x.q)*(p*p+q*q)=0:=by
  have:(x.p*x.p+x.q*x.q)*(p*p+q*q)=(x.p*p-x.q*q)*(x.p*p-x.q*q)+(x.p*q+x.q*p)*(x.p*q+x.q*p):=by grind
  rw[this,h1,h2]
  rfl
 have nn:∀z:Int,0<=z*z:=λz=>(Int.le_total 0 z).elim (λh=>Int.mul_nonneg h h) λh=>Int.mul_nonneg_of_nonpos_of_nonpos h h
 have ps:∀z:Int,z≠0->0<z*z:=λz hz=>(Int.lt_or_gt_of_ne hz).elim (λh=>Int.mul_pos_of_neg_of_neg h h) λh=>Int.mul_pos h h
 have pos:∀a b:Int,fM a b=true->0<a*a+b*b:=by
  intro a b h
  unfold fM at h
  simp only[Bool.and_eq_true,Bool.or_eq_true,decide_eq_true_eq]at h
  have h1:=nn a
  have h2:=nn b
  rcases h.2 with h|h
  ·have:=ps a h
   omega
  ·have:=ps b h
   omega
 rcases Int.mul_eq_zero.1 e with e|e
 ·have:=pos _ _ hx; omega
 ·have:=pos _ _ hd; omega
theorem adJ:∀w v,MC 4 S.length true (λi=>cP (ai S i)) w v->MC 4 S.length true (λk=>cP (rC S p q 0 k)) w v:=λw v ⟨cs,e,hc⟩=>⟨cs,e,λk hk=>by
 show cP (if k<0 then _ else _) w _
 rw[if_neg (Nat.not_lt_zero _)]
 exact hc k hk⟩
theorem QF:∀w v,aA 4 true S.length (λk=>cP (rC S p q S.length k)) w v->aA 4 true S.length (λi=>cP (ai (cM S p q) i)) w v:=lj λk hk w v hh=>by
 unfold rC at hh
 rw[if_pos hk]at hh
 rw[r5 hk]
 exact hh
theorem Iq (h:S.length<=1000000):K2 Tryz.prog 25 (aA 4 true S.length λi=>cP (ai S i)) (pS [⟨false,1,pI p⟩,⟨false,1,pI q⟩]) (cN (Xl (ic S p q) (aA 4 true S.length λi=>cP (ai (cM S p q) i))) (pI (ic S p q))):=by
 intro M w0 v0 v1 hM hv0 eI
 refine rG (N:=81) Tryz.func25 rfl rfl rfl hM hv0 eI λa hI=>?_
 refine bf hI 3 [⟨3,3,some 0,none,.ptr,66,2,true,pv _,[]⟩] [] [Uc 1 4 _,Uc 2 5 _] .z (.kk .z) ⟨bo,mv,mv,trivial⟩ (.k .z) (.oM .z) λa w hI=>?_
 refine az ?_
 refine bf hI 3 [] [] [Uc 0 12 _,Uc 1 13 _,Uc 2 6 _] (.k .z) (.bS .z) ⟨mv,mS Dt,mv,trivial⟩ (.k .z) (.cA (.dk .z)) λa w hI=>?_
 refine bf hI 2 [] [] [Uc 0 14 _,Uc 1 15 _] (.k .z) (.ah .z) ⟨mv,bn,trivial⟩ (.k .z) (.ah (.dk .z)) λa w hI=>?_
 refine mj hI (λt1=>?_) (λt1=>?_)
 ·
  have e1:ic S p q=kB S:=by unfold ic; rw[if_pos t1]
  refine bf hI 3 [] [] [Uc 0 16 _,Uc 1 4 _,Uc 2 5 _] (.k .z) (.k (.t 1 (.t 2 (.kk .z)))) ⟨mv,mv,mv,trivial⟩ (.k .z) (.dx (.xI .z)) λa w hI=>?_
  refine aL ?_
  refine aB ?_
  exact jZ hI rfl (iu (hq:=DK (by rw[e1]; exact t1))) (iu (hq:=bk e1.symm))
 ·
  have e0:kB S=0:=Decidable.not_not.1 t1
  have hP:=P4 e0
  have hS1:0<S.length/\S.length<=1000000:=by omega
  refine aJ ?_
  refine ae ?_
  refine az ?_
  refine bf hI 3 [] [] [Uc 0 17 _,Uc 1 18 _,Uc 2 19 _] (.k .z) (.ah (.k .z)) ⟨ld,mS yo,nt,trivial⟩ (.k .z) (.cA (.dw .z)) λa w hI=>?_
  refine Cy hI (λt2=>?_) (λt2=>?_)
  ·
   have e2:ic S p q=1:=by unfold ic; rw[if_neg t1,if_pos t2]
   refine bf hI 2 [] [] [Uc 0 4 _,Uc 1 5 _] (.k .z) (.k (.t 0 (.t 1 (.k .z)))) ⟨mv,mv,trivial⟩ (.k .z) (.dx (.kk .z)) λa w hI=>?_
   refine aL ?_
   refine aB ?_
   exact jZ hI rfl (iu (hq:=DK (by rw[e2]; decide))) (iu (hq:=bk e2.symm))
  ·
   have hd:fM p q=true:=by simpa using t2
   have TJ:=uo hd
   refine aJ ?_
   refine ae ?_
   refine adO hI 3 1 [] [] [Uc 0 20 _] (.k .z) (.ah .z) ⟨mv,trivial⟩ (.k .z) (.cA (.k .z)) (chN (RY (S:=S)) hS1 (λ_=>Pz _)) λa w hI=>?_
   obtain⟨b7,c7,hc7,hI⟩:=hI
   refine az ?_
   refine bf hI 3 [] [] [Uc 0 22 _,Uc 1 23 _,Uc 2 24 _] (.k (.k .z)) (.ah (.k .z)) ⟨mv,ln,mv,trivial⟩ (.k (.k .z)) (.oM (.mw .z)) λa w hI=>?_
   refine aC ?_
   refine tN [Vz 3 3 66 2 true _] [Uz 7 _,Uz 22 _,Uz 23 _] (λ(i:Nat)=>[fC 21 b7 (c7*4) ((MC 4 S.length true λk=>cP (rC S p q i k)))]) (λ(i:Nat)=>[Uz 24 (pI (i:Int))]) (λ(i:Nat)=>i<=S.length/\∀k,k<i->fM (bP p q (ai S k)).p (bP p q (ai S k)).q=true) (λ(i:Nat)=>S.length-i) (0) ⟨Nat.zero_le _,λk hk=>absurd hk (by omega)⟩ hI ⟨vi,vO (adJ),trivial⟩ ⟨gi,gi,gi,gc,trivial⟩ ?_
   intro i a w hp hI
   refine bf hI 1 [] [] [Uc 0 25 _] (.k (.k .z)) (.ah .z) ⟨bn,trivial⟩ (.k (.k .z)) (.ah (.k .z)) λa w hI=>?_
   refine az ?_
   refine mj hI (λt3=>?_) (λt3=>?_)
   ·
    have hpi:=(uU (hP.2 i (by omega))).1
    have Ek:=uo hpi
    have m1:=n9 (p:=(ai S i).p) (q:=p) 1048576 Ek.1 Ek.2.1 TJ.1 TJ.2.1
    have m2:=n9 (p:=(ai S i).q) (q:=q) 1048576 Ek.2.2.1 Ek.2.2.2 TJ.2.2.1 TJ.2.2.2
    have m3:=n9 (p:=(ai S i).p) (q:=q) 1048576 Ek.1 Ek.2.1 TJ.2.2.1 TJ.2.2.2
    have m4:=n9 (p:=(ai S i).q) (q:=p) 1048576 Ek.2.2.1 Ek.2.2.2 TJ.1 TJ.2.1
    have hZ:FK ((ai S i).p*p-(ai S i).q*q)/\FK ((ai S i).p*q+(ai S i).q*p):=by unfold FK; omega
    have hg0:(qG ((ai S i).p*p-(ai S i).q*q) ((ai S i).p*q+(ai S i).q*p))≠0:=Gt hpi hd
    refine aJ ?_
    refine ae ?_
    refine az ?_
    refine aC ?_
    refine bf hI 6 [⟨9,9,some 3,none,.ptr,68,4,true,pv _,[(5,pv _)]⟩] [] [Uc 0 26 _,Uc 1 27 _,Uc 2 28 _,Uc 4 8 _] (.k (.k .z)) (.ah (.k .z)) ⟨mv,ix,ld,fB [.i,.i,.i,.i],mv,dM,trivial⟩ (.k (.k (.s .o .z))) (.ah (.bh (.k .z))) λa w hI=>?_
    refine bf hI 29 [⟨10,10,some 27,none,.ptr,66,2,true,pv _,[(28,pv _)]⟩] [⟨some 0,29,9,1,True⟩,⟨some 1,30,9,1,True⟩,⟨some 3,32,3,0,True⟩,⟨some 6,35,9,1,True⟩,⟨some 7,36,9,2,True⟩,⟨some 9,38,3,1,True⟩,⟨some 13,42,9,1,True⟩,⟨some 14,43,9,1,True⟩,⟨some 16,45,3,1,True⟩,⟨some 19,48,9,1,True⟩,⟨some 20,49,9,2,True⟩,⟨some 22,51,3,0,True⟩] [Uc 2 31 _,Uc 4 33 _,Uc 5 34 _,Uc 8 37 _,Uc 10 39 _,Uc 11 40 _,Uc 12 41 _,Uc 15 44 _,Uc 17 46 _,Uc 18 47 _,Uc 21 50 _,Uc 23 52 _,Uc 24 53 _,Uc 25 54 _,Uc 26 55 _] (.k (.k (.k .z))) (.ah (.k .z)) ⟨fa,fa,ld,fa,ld,bn,fa,fa,ld,fa,ld,bn,bn,fa,fa,ld,fa,ld,bn,fa,fa,ld,fa,ld,bn,bn,bd [.o .i,.o .i] [(0,_),(1,_)],fB [.i,.i],dM,trivial⟩ (.k (.k (.d (.s .o .z)))) (.ah (.dx (.d8 (.bh .z)))) λa w hI=>?_
    refine bf hI 6 [] [⟨some 0,56,10,0,True⟩,⟨some 2,58,10,1,True⟩] [Uc 1 57 _,Uc 3 59 _,Uc 4 60 _,Uc 5 11 _] (.k (.k (.k .z))) (.ah (.k .z)) ⟨fa,ld,fa,ld,pq (Mb (a:=((ai S i).p*p-(ai S i).q*q)) (b:=((ai S i).p*q+(ai S i).q*p))) (hφ:=hZ),mv,trivial⟩ (.k (.k (.k .z))) (.ah (.dx (.k .z))) λa w hI=>?_
    refine mR hI [0,1,0,7,0,16,0,112,63,319,1023,2047] [] [⟨some 0,61,10,0,True⟩,⟨some 4,65,10,1,True⟩,⟨some 8,69,10,0,True⟩,⟨some 10,70,10,1,True⟩] [Uc 1 62 _,Uc 2 63 _,Uc 3 64 _,Uc 5 66 _,Uc 6 67 _,Uc 7 68 _] (.k (.k (.u none [(9,pv _),(11,pv _)] .z))) (.ah (.kk .z)) ⟨fa,ld,mv,dJ hs hs (JR hg0 hZ.1) (pt rfl),fa,ld,mv,dJ hs hs (JR hg0 hZ.2) (pt rfl),fa,dM,fa,dM,trivial⟩ (.k (.k (.s (.c .o) .z))) (.ah (.dx (.bh .z))) λa w hI=>?_
    refine az ?_
    refine bf hI 3 [] [] [Uc 0 71 _,Uc 1 72 _,Uc 2 73 _] (.k (.k (.k .z))) (.ah (.k .z)) ⟨ld,mS yo,nt,trivial⟩ (.k (.k (.k .z))) (.ah (.nh .z)) λa w hI=>?_
    refine Cy hI (λt4=>?_) (λt4=>?_)
    ·
     have e3:ic S p q=1:=by
      unfold ic
      rw[if_neg t1,if_neg (by rw[t2]; exact Bool.false_ne_true),if_pos]
      rw[show Gs S p q=false from rK (k:=i) (nbT t4) (by omega)]
      rfl
     refine bf hI 2 [] [] [Uc 0 4 _,Uc 1 5 _] (.k (.k (.k .z))) (.ah (.kk .z)) ⟨mv,mv,trivial⟩ (.k (.k (.k .z))) (.ah (.oM .z)) λa w hI=>?_
     refine aL ?_
     refine aB ?_
     refine bj ?_
     refine aB ?_
     refine aB ?_
     refine bj ?_
     refine aB ?_
     exact jZ hI rfl (iu (hq:=DK (by rw[e3]; decide))) (iu (hq:=bk e3.symm))
    ·
     have e4:∀k,k<i+1->fM (bP p q (ai S k)).p (bP p q (ai S k)).q=true:=λk hk=>if hk2:k=i then hk2▸(nbF t4)else hp.2 k (by omega)
     have O2:∀k,k<S.length->k≠i->∀w v,cP (rC S p q i k) w v->cP (rC S p q (i+1) k) w v:=λk _ hne w v hh=>by
      unfold rC at hh ⊢
      by_cases BS:k<i
      ·rw[if_pos BS]at hh; rw[if_pos (by omega)]; exact hh
      ·rw[if_neg BS]at hh; rw[if_neg (by omega)]; exact hh
     have RP:∀(w:World) (cs ds:List Value),cs.length=4->ds.length=2->cP (rC S p q i i) w (aj true cs)->pS [⟨false,1,pI (bP p q (ai S i)).p⟩,⟨false,1,pI (bP p q (ai S i)).q⟩] w (aj true ds)->cP (rC S p q (i+1) i) w (aj true (cs.take 1++ds++cs.drop (1+2))):=by
      unfold rC
      rw[if_neg (Nat.lt_irrefl _),if_pos (by omega)]
      exact SF
     refine aJ ?_
     refine ae ?_
     refine qq hI 6 [] [] [Uc 0 74 _,Uc 1 75 _,Uc 2 76 _,Uc 3 77 _,Uc 4 78 _] (.k (.u none [(5,_)] (.k .z))) (.ah (.kk .z)) ⟨mv,mv,ld,iX 4 i,fE 1,sN 21 (g:=λk=>cP (rC S p q (i+1) k)) _ rfl i 1 ⟨rfl,rfl⟩ (λ_=>Pz _) O2 RP (by omega) (Nat.mul_le_mul_right _ hc7.1),trivial⟩ (.k (.s .o (.d .z))) (.ah (.bh (.qy .z))) λa w hI=>?_
     refine aG ?_
     refine ae ?_
     refine qq hI 2 [] [] [Uc 0 79 _,Uc 1 24 _] (.k (.k .z)) (.bS (.t 1 .z)) ⟨bn,mv,trivial⟩ (.k (.k .z)) (.cA (.dk .z)) λa w hI=>?_
     refine ae ?_
     exact qR (i+1) ⟨by omega,e4⟩ hI ⟨vc,vO,trivial⟩ ⟨gc,gc,gc,gc,trivial⟩ (by omega)
   ·
    have e5:ic S p q=0:=by
     unfold ic
     rw[if_neg t1,if_neg (by rw[t2]; exact Bool.false_ne_true),if_neg]
     rw[show Gs S p q=true from kQ λk hk=>hp.2 k (by omega)]
     exact Bool.false_ne_true
    refine bO ?_
    refine ak ?_
    refine ak ?_
    refine aH ?_
    refine ae ?_
    obtain rfl:i=S.length:=by omega
    have hI:=SN hI 1 7 rfl (by kernel_rfl) hc7
    dsimp only[List.eraseIdx]at hI
    refine bf hI 3 [] [] [Uc 0 80 _,Uc 1 4 _,Uc 2 5 _] (.k .z) (.ah (.kk .z)) ⟨mv,mv,mv,trivial⟩ (.d .z) (.bh (.dw (.k .z))) λa w hI=>?_
    refine aL ?_
    exact jZ hI rfl (iu (hq:=λw v hv=>KH e5 w v (QF w v hv))) (iu (hq:=bk e5.symm))
end Wx
