import Derived.Test.YtadigiledciihaaGreatJRA17
namespace Wx
open Go Go.RowKit
def qI:List Fd->Nat->Option (List Fd)
 |[],n=>match Nat.beq n 0 with
  |true=>some []
  |false=>none
 |⟨ag,m,p⟩::fs,n=>match Nat.beq n 0 with
  |true=>some []
  |false=>match Nat.ble m n with
   |true=>match qI fs (Nat.sub n m)with
    |some l=>some (⟨ag,m,p⟩::l)
    |none=>none
   |false=>none
def xI:List Fd->Nat->Nat->Option (List Fd)
 |[],_,n=>qI [] n
 |⟨ag,m,p⟩::fs,off,n=>match Nat.beq off 0 with
  |true=>qI (⟨ag,m,p⟩::fs) n
  |false=>match Nat.ble m off with
   |true=>xI fs (Nat.sub off m) n
   |false=>none
def G7:Bool->Option (List Fd)->Option Pred
 |true,some [⟨true,_,p⟩]=>some p
 |true,some l=>some (pS l)
 |false,some [⟨false,_,p⟩]=>some p
 |_,_=>none
def uT:List Fd->Nat->Option (List Fd)
 |[],n=>match Nat.beq n 0 with
  |true=>some []
  |false=>none
 |⟨ag,m,p⟩::fs,n=>match Nat.beq n 0 with
  |true=>some (⟨ag,m,p⟩::fs)
  |false=>match Nat.ble m n with
   |true=>uT fs (Nat.sub n m)
   |false=>none
def yo:List Fd->Option (List Fd)->Option (List Fd)
 |[],r=>r
 |g::gs,r=>match yo gs r with
  |some l=>some (g::l)
  |none=>none
def vR (gs:List Fd) (n:Nat):List Fd->Nat->Option (List Fd)
 |[],_=>match Nat.beq n 0 with
  |true=>yo gs (some [])
  |false=>none
 |⟨ag,m,p⟩::fs,off=>match Nat.beq off 0 with
  |true=>yo gs (uT (⟨ag,m,p⟩::fs) n)
  |false=>match Nat.ble m off with
   |true=>match vR gs n fs (Nat.sub off m)with
    |some l=>some (⟨ag,m,p⟩::l)
    |none=>none
   |false=>none
theorem Ir:∀{fs:List Fd} {n:Nat} {l:List Fd} {w:World} {cs:List Value},qI fs n=some l->aL fs w cs->aL l w (cs.take n)/\n<=cs.length:=by
 intro fs
 induction fs with
 |nil=>
  intro n l w cs h hc
  unfold qI at h
  split at h
  ·rename_i hb; have hb:=Nat.eq_of_beq_eq_true hb; subst hb; cases h; exact⟨rfl,Nat.zero_le _⟩
  ·cases h
 |cons f fs ih=>
  intro n l w cs h hc
  obtain⟨ag,m,p⟩:=f
  unfold qI at h
  split at h
  ·rename_i hb; have hb:=Nat.eq_of_beq_eq_true hb; subst hb; cases h; exact⟨rfl,Nat.zero_le _⟩
  ·split at h
   ·rename_i hm
    have hm:=Nat.le_of_ble_eq_true hm
    split at h
    ·rename_i l' hl
     cases h
     obtain⟨h1,h2,h3⟩:=hc
     obtain⟨k1,k2⟩:=ih hl h3
     simp only[List.length_drop]at k2 h1
     have k2:n-m<=cs.length-m:=k2
     refine⟨⟨?_,?_,?_⟩,by omega⟩
     ·show m<=(cs.take n).length; rw[List.length_take]; omega
     ·show p w (av ag ((cs.take n).take m)); rw[List.take_take,Nat.min_eq_left hm]; exact h2
     ·show aL l' w ((cs.take n).drop m); rw[List.drop_take]; exact k1
    ·cases h
   ·cases h
theorem Dr:∀{fs:List Fd} {off n:Nat} {l:List Fd} {w:World} {cs:List Value},xI fs off n=some l->aL fs w cs->aL l w ((cs.drop off).take n)/\n+off<=cs.length+(if n=0 then off else 0):=by
 intro fs
 induction fs with
 |nil=>
  intro off n l w cs h hc
  have hn:n=0:=by
   unfold xI qI at h
   split at h
   ·rename_i hb; exact Nat.eq_of_beq_eq_true hb
   ·cases h
  subst hn
  have:cs=[]:=hc
  subst this
  have h:qI [] 0=some l:=h
  cases h
  simp[aL]
 |cons f fs ih=>
  intro off n l w cs h hc
  obtain⟨ag,m,p⟩:=f
  unfold xI at h
  split at h
  ·rename_i hb; have hb:=Nat.eq_of_beq_eq_true hb; subst hb
   obtain⟨k1,k2⟩:=Ir h hc
   exact⟨by rw[List.drop_zero]; exact k1,by omega⟩
  ·split at h
   ·rename_i hm
    have hm:=Nat.le_of_ble_eq_true hm
    obtain⟨h1,h2,h3⟩:=hc
    obtain⟨k1,k2⟩:=ih h h3
    rw[List.drop_drop]at k1
    have e:m+Nat.sub off m=off:=by show m+(off-m)=off; omega
    rw[show(({ agg:=ag,n:=m,p:=p }:Fd).n+Nat.sub off m)=off from e]at k1
    refine⟨k1,?_⟩
    rw[List.length_drop]at k2
    have h1:m<=cs.length:=h1
    have k2:n+(off-m)<=cs.length-m+(if n=0 then off-m else 0):=k2
    split at k2<;>rename_i hn
    ·rw[if_pos hn]; omega
    ·rw[if_neg hn]; omega
   ·cases h
variable {ag:Bool} {q:Pred}
theorem CZ {l:List Fd} {w:World} {ds:List Value} (h:G7 ag (some l)=some q) (hc:aL l w ds):q w (av ag ds):=by
 unfold G7 at h
 split at h
 ·rename_i _ e
  cases h
  cases e
  obtain⟨h1,h2,h3⟩:=hc
  have h3:ds.drop _=[]:=h3
  have:ds.take _=ds:=List.take_of_length_le (List.drop_eq_nil_iff.1 h3)
  rw[this]at h2
  exact h2
 ·rename_i _ e
  cases h
  cases e
  exact⟨ds,rfl,hc⟩
 ·rename_i _ e
  cases h
  cases e
  obtain⟨h1,h2,h3⟩:=hc
  have h3:ds.drop _=[]:=h3
  have:ds.take _=ds:=List.take_of_length_le (List.drop_eq_nil_iff.1 h3)
  rw[this]at h2
  exact h2
 ·cases h
variable {fs:List Fd} {off n N:Nat}
theorem zo (h:G7 ag (xI fs off n)=some q):∀w cs,cs.length=N->pS fs w (av true cs)->q w (av ag ((cs.drop off).take n)):=by
 rintro w cs _ ⟨ds,e,hd⟩
 have:=cD (show av true cs=av true ds from e)
 subst this
 cases hs:xI fs off n with
 |none=>rw[hs]at h; cases ag<;>cases h
 |some l=>rw[hs]at h; exact CZ h (Dr hs hd).1
theorem FW:∀{fs:List Fd} {n:Nat} {l:List Fd} {w:World} {cs:List Value},uT fs n=some l->aL fs w cs->aL l w (cs.drop n):=by
 intro fs
 induction fs with
 |nil=>
  intro n l w cs h hc
  unfold uT at h
  split at h
  ·cases h; have:cs=[]:=hc; subst this; simp[aL]
  ·cases h
 |cons f fs ih=>
  intro n l w cs h hc
  obtain⟨ag,m,p⟩:=f
  unfold uT at h
  split at h
  ·rename_i hb; have hb:=Nat.eq_of_beq_eq_true hb; subst hb; cases h; exact hc
  ·split at h
   ·rename_i hm
    have hm:=Nat.le_of_ble_eq_true hm
    have:=ih h hc.2.2
    rw[List.drop_drop]at this
    rwa [show(({ agg:=ag,n:=m,p:=p }:Fd).n+Nat.sub n m)=n from(show m+(n-m)=n by omega)]at this
   ·cases h
theorem wB:∀{gs r l:List Fd} {w:World} {ds es:List Value},yo gs (some r)=some l->aL gs w ds->aL r w es->aL l w (ds++es):=by
 intro gs
 induction gs with
 |nil=>intro r l w ds es h hd he; cases h; have:ds=[]:=hd; subst this; exact he
 |cons g gs ih=>
  intro r l w ds es h hd he
  unfold yo at h
  split at h
  ·rename_i l' hl
   cases h
   obtain⟨h1,h2,h3⟩:=hd
   refine⟨by rw[List.length_append]; omega,?_,?_⟩
   ·rw[List.take_append_of_le_length h1]; exact h2
   ·rw[List.drop_append_of_le_length h1]; exact ih hl h3 he
  ·cases h
theorem DG:∀{gs:List Fd},yo gs none=none:=by
 intro gs
 induction gs with
 |nil=>rfl
 |cons g gs ih=>unfold yo; rw[ih]
theorem zW:∀{fs gs hs:List Fd} {off n:Nat} {w:World} {cs ds:List Value},vR gs n fs off=some hs->aL fs w cs->aL gs w ds->ds.length=n->aL hs w (cs.take off++ds++cs.drop (off+n)):=by
 intro fs
 induction fs with
 |nil=>
  intro gs hs off n w cs ds h hc hd hl
  unfold vR at h
  split at h
  ·rename_i hb; have hb:=Nat.eq_of_beq_eq_true hb; subst hb
   have:cs=[]:=hc
   subst this
   have:=wB h hd (show aL [] w []from rfl)
   simpa using this
  ·cases h
 |cons f fs ih=>
  intro gs hs off n w cs ds h hc hd hl
  obtain⟨ag,m,p⟩:=f
  unfold vR at h
  split at h
  ·rename_i hb; have hb:=Nat.eq_of_beq_eq_true hb; subst hb
   cases hr:uT (⟨ag,m,p⟩::fs) n with
   |none=>rw[hr,DG]at h; cases h
   |some r=>
    rw[hr]at h
    have:=wB h hd (FW hr hc)
    simpa using this
  ·split at h
   ·rename_i hm
    have hm:=Nat.le_of_ble_eq_true hm
    split at h
    ·rename_i l hl'
     cases h
     obtain⟨h1,h2,h3⟩:=hc
     have h1:m<=cs.length:=h1
     have h2:p w (av ag (cs.take m)):=h2
     have:=ih hl' h3 hd hl
     have e:m+Nat.sub off m=off:=by show m+(off-m)=off; omega
     have hlen:m<=(cs.take off).length:=by rw[List.length_take]; omega
     have e2:(cs.take off++ds++cs.drop (off+n))=cs.take off++(ds++cs.drop (off+n)):=by rw[List.append_assoc]
     refine⟨?_,?_,?_⟩
     ·show m<=_; rw[e2,List.length_append]; omega
     ·show p w (av ag (List.take m _)); rw[e2,List.take_append_of_le_length hlen,List.take_take,Nat.min_eq_left hm]; exact h2
     ·show aL l w (List.drop m _)
      rw[e2,List.drop_append_of_le_length hlen,List.drop_take]
      have this:aL l w ((cs.drop m).take (off-m)++ds++(cs.drop m).drop ((off-m)+n)):=this
      rw[List.drop_drop,show m+(off-m+n)=off+n by omega,List.append_assoc]at this
      exact this
    ·cases h
   ·cases h
variable {hs:List Fd}
theorem E5 (h:vR [⟨ag,n,q⟩] n fs off=some hs):
  ∀w cs ds,cs.length=N->ds.length=n->pS fs w (av true cs)->q w (av ag ds)->pS hs w (av true (cs.take off++ds++cs.drop (off+n))):=by
 rintro w cs ds _ hl ⟨es,e,hc⟩ hq
 have:=cD (show av true cs=av true es from e)
 subst this
 exact⟨_,rfl,zW h hc (show aL [⟨ag,n,q⟩] w ds from⟨by show n<=_; omega,by show q w (av ag (ds.take n)); rw[List.take_of_length_le (by omega)]; exact hq,List.drop_eq_nil_iff.2 (by show ds.length<=n; omega)⟩) hl⟩
theorem E6 {gs:List Fd} (h:vR gs n fs off=some hs):
  ∀w cs ds,cs.length=N->ds.length=n->pS fs w (av true cs)->pS gs w (av true ds)->pS hs w (av true (cs.take off++ds++cs.drop (off+n))):=by
 rintro w cs ds _ hl ⟨es,e,hc⟩ ⟨es',e',hd⟩
 have:=cD (show av true cs=av true es from e)
 subst this
 have:=cD (show av true ds=av true es' from e')
 subst this
 exact⟨_,rfl,zW h hc hd hl⟩
def pQ (F:Rat->Pred) (j:Nat) (x:Rat):Pred:=λw v=>dx j x/\F x w v
abbrev pR (j:Nat) (x:Rat):Pred:=pQ bG j x
abbrev pN (j:Nat) (x:Rat):Pred:=pQ cW j x
variable {F:Rat->Pred} {j:Nat} {x:Rat}
theorem vL (h:dx j x):∀w v,F x w v->pQ F j x w v:=λ_ _ k=>⟨h,k⟩
variable {k:Nat}
theorem zL (h:j<=k):∀w v,pQ F j x w v->pQ F k x w v:=λ_ _ q=>⟨q.1.mono h,q.2⟩
theorem C9 {y:Rat} (e:x=y) (h:j<=k):∀w v,pQ F j x w v->pQ F k y w v:=e▸zL h
theorem nR:aC (pR j x):=λM w v hM h=>λw' he=>⟨h.1,dS x M w v hM h.2 w' he⟩
theorem nQ:aC (pN j x):=λM w v hM h=>λw' he=>⟨h.1,dU x M w v hM h.2 w' he⟩
theorem oz:Fits 3 true (pR j x):=λw v h=>lW x w v h.2
theorem wK:Fits 3 true (pN j x):=λw v h=>lX x w v h.2
inductive Zl
 |r|f|i|b|n|s
def Zl.fd:Zl->Fd
 |.r=>⟨true,3,pR 1 0⟩
 |.f=>⟨true,3,fq⟩
 |.i=>⟨false,1,pI 0⟩
 |.b=>⟨false,1,pB false⟩
 |.n=>⟨false,1,bW (.slice none 0 0)⟩
 |.s=>⟨false,1,bW (.string ⟨#[]⟩)⟩
def Zl.cs:Zl->List Value
 |.r|.f=>[.bool false,.slice none 0 0,.slice none 0 0]
 |.i=>[.int .i64 0]
 |.b=>[.bool false]
 |.n=>[.slice none 0 0]
 |.s=>[.string ⟨#[]⟩]
theorem Vq:dx 1 (0:Rat):=⟨by show(0:Rat).num.natAbs<2^1; decide,by show(0:Rat).den<2^1; decide⟩
theorem Lz (w:World):∀l:List Zl,aL (l.map Zl.fd) w (l.flatMap Zl.cs):=by
 intro l
 induction l with
 |nil=>rfl
 |cons z l ih=>
  have e:(Zl.fd z).n=(Zl.cs z).length:=by cases z<;>rfl
  have hp:(Zl.fd z).p w (av (Zl.fd z).agg (Zl.cs z)):=by
   cases z
   ·exact⟨Vq,nL w⟩
   ·trivial
   all_goals rfl
  show(Zl.fd z).n<=_/\_/\_
  rw[List.flatMap_cons,List.length_append,List.take_append_of_le_length (by omega),List.take_of_length_le (by omega),List.drop_append_of_le_length (by omega),List.drop_of_length_le (by omega)]
  exact⟨by omega,hp,ih⟩
theorem Ca:∀l:List Zl,∀u∈l.flatMap Zl.cs,iH u:=by
 intro l u hu
 obtain⟨z,_,hz⟩:=List.mem_flatMap.1 hu
 cases z<;>simp[Zl.cs]at hz<;>(try rcases hz with rfl|rfl)<;>(try subst hz)<;>intro n<;>simp
theorem B9 (l:List Zl) (w:World):pS (l.map Zl.fd) w (av true (l.flatMap Zl.cs)):=⟨_,rfl,Lz w l⟩
def yL (F:Rat->Pred) (j:Nat) (x:Rat):Fd:=⟨true,3,pQ F j x⟩
def pV (F:Rat->Pred) (j:Nat) (l:List Rat):Pred:=pS (l.map (yL F j))
section
variable {F:Rat->Pred} {j k:Nat} {l:List Rat}
theorem Lr (h:j<=k):∀{l:List Rat} {w:World} {cs:List Value},aL (l.map (yL F j)) w cs->aL (l.map (yL F k)) w cs
 |[],_,_,h=>h
 |_::_,_,_,⟨h1,h2,h3⟩=>⟨h1,zL h _ _ h2,Lr h h3⟩
theorem Da (h:j<=k):∀w v,pV F j l w v->pV F k l w v:=λ_ _ ⟨cs,e,hc⟩=>⟨cs,e,Lr h hc⟩
theorem Qf {l':List Rat} (e:l=l') (h:j<=k):∀w v,pV F j l w v->pV F k l' w v:=e▸Da h
theorem Ho:∀{l:List Rat} {w:World} {cs:List Value},aL (l.map (yL F j)) w cs->cs.length=3*l.length
 |[],_,_,h=>by rw[show _=[]from h]; rfl
 |_::l,_,cs,⟨h1,_,h3⟩=>by
  have:=Ho h3
  have h1:3<=cs.length:=h1
  have:cs.length-3=3*l.length:=by rw[<-List.length_drop]; exact this
  rw[List.length_cons]; omega
theorem C6:∀{l:List Rat} {w:World} {cs:List Value} (q:Nat),aL (l.map (yL F j)) w cs->aL ((l.drop q).map (yL F j)) w (cs.drop (q*3))
 |l,_,_,0,h=>by rw[Nat.zero_mul,List.drop_zero,List.drop_zero]; exact h
 |[],_,_,_+1,h=>by rw[show _=[]from h]; rfl
 |_::_,_,_,q+1,⟨_,_,h3⟩=>by
  have:=C6 q h3
  rw[List.drop_drop,show(yL F j _).n+q*3=(q+1)*3 from(show 3+q*3=(q+1)*3 by omega)]at this
  exact this
theorem C7:∀{l:List Rat} {w:World} {cs:List Value} (q:Nat),aL (l.map (yL F j)) w cs->aL ((l.take q).map (yL F j)) w (cs.take (q*3))
 |l,_,_,0,_=>by rw[Nat.zero_mul,List.take_zero,List.take_zero]; rfl
 |[],_,_,_+1,h=>by rw[show _=[]from h]; rfl
 |_::_,w,cs,q+1,⟨h1,h2,h3⟩=>by
  have h1:3<=cs.length:=h1
  refine⟨?_,?_,?_⟩
  ·show 3<=(cs.take ((q+1)*3)).length; rw[List.length_take]; omega
  ·show pQ F j _ w (av true ((cs.take ((q+1)*3)).take 3)); rw[List.take_take,Nat.min_eq_left (by omega)]; exact h2
  ·show aL _ w ((cs.take ((q+1)*3)).drop 3); rw[List.drop_take,show(q+1)*3-3=q*3 by omega]; exact C7 q h3
theorem Ni {x:Rat} {w:World} {ds:List Value} (hl:ds.length=3):aL ([x].map (yL F j)) w ds↔pQ F j x w (av true ds):=by
 refine⟨λ⟨_,h2,_⟩=>?_,λh=>⟨by show 3<=_; omega,?_,List.drop_eq_nil_iff.2 (by show _<=3; omega)⟩⟩
 ·have h2:pQ F j x w (av true (ds.take 3)):=h2
  rwa [List.take_of_length_le (by omega)]at h2
 ·show pQ F j x w (av true (ds.take 3))
  rwa [List.take_of_length_le (by omega)]
theorem sG {l:List Rat} {q:Nat} (h:q<l.length):(l.drop q).take 1=[l.getD q 0]:=by
 rw[List.drop_eq_getElem_cons h,List.take_succ_cons,List.take_zero,List.getD_eq_getElem?_getD,List.getElem?_eq_getElem h]; rfl
variable {off:Nat}
theorem Nk (q m:Nat) (ho:off=q*3) {N:Nat}:∀w cs,cs.length=N->pV F j l w (av true cs)->pV F j ((l.drop q).take m) w (av true ((cs.drop off).take (m*3))):=by
 rintro w cs _ ⟨ds,e,h⟩
 have:=cD (show av true cs=av true ds from e)
 subst this ho
 exact⟨_,rfl,C7 m (C6 q h)⟩
theorem Nj (q:Nat) (ho:off=q*3) (hq:q<l.length) {N:Nat}:∀w cs,cs.length=N->pV F j l w (av true cs)->pQ F j (l.getD q 0) w (av true ((cs.drop off).take 3)):=by
 intro w cs hN h
 obtain⟨ds,e,h⟩:=Nk q 1 ho w cs hN h
 rw[sG hq]at h
 have e:=cD (show av true _=av true ds from e)
 have hl:=Ho h
 rw[Nat.one_mul]at e
 rw[e]
 exact(Ni hl).1 h
theorem tc (hF:∀x,aC (pQ F j x)):∀{l:List Rat} {M:Nat->Nat->Prop} {w:World} {cs:List Value},dN M w->aL (l.map (yL F j)) w cs->aS M (λw=>aL (l.map (yL F j)) w cs) w
 |[],_,_,_,_,h=>λ_ _=>h
 |x::_,M,w,_,hM,⟨h1,h2,h3⟩=>λw' he=>⟨h1,hF x M w _ hM h2 w' he,tc hF hM h3 w' he⟩
theorem td (hF:∀x,aC (pQ F j x)):aC (pV F j l):=by
 rintro M w v hM ⟨cs,rfl,h⟩ w' he
 exact⟨cs,rfl,tc hF hM h w' he⟩
theorem rQ (hF:∀x,Fits 3 true (pQ F j x)):∀{l:List Rat},qU (l.map (yL F j))
 |[]=>trivial
 |x::_=>⟨hF x,rQ hF⟩
theorem Dk:∀{l:List Rat},lz (l.map (yL F j))=l.length*3
 |[]=>rfl
 |_::l=>by show 3+lz (l.map (yL F j))=(l.length+1)*3; rw[Dk]; omega
theorem ru (hF:∀x,Fits 3 true (pQ F j x)) {n:Nat} (hn:n=l.length*3):Fits n true (pV F j l):=pZ (rQ hF) (by rw[hn]; exact Dk)
inductive pH (F:Rat->Pred) (j:Nat):List Fd->List Rat->Prop
 |z:pH F j [] []
 |c {i:Nat} {x:Rat} {fs:List Fd} {l:List Rat} (h:i<=j):pH F j fs l->pH F j (⟨true,3,pQ F i x⟩::fs) (x::l)
variable {fs:List Fd}
theorem pH.ok (h:pH F j fs l):∀{w:World} {cs:List Value},aL fs w cs->aL (l.map (yL F j)) w cs:=by
 induction h with
 |z=>exactλh=>h
 |c hi _ ih=>exact λ⟨h1,h2,h3⟩=>⟨h1,zL hi _ _ h2,ih h3⟩
theorem pH.pV (h:pH F j fs l):∀w v,pS fs w v->Wx.pV F j l w v:=λ_ _ ⟨cs,e,hc⟩=>⟨cs,e,h.ok hc⟩
end
end Wx

namespace Wx
open Go Go.RowKit
def CO (ms:List Nat) (i s:Nat):List bg->Option Pred
 |[]=>none
 |⟨t,f,s',p⟩::r=>match Nat.beq s' s&&(qQ ms i t&&jl ms i f)with
  |true=>some p
  |false=>CO ms i s r
def lu (i:Nat):List bg->Option Pred
 |[]=>none
 |⟨none,_,_,_⟩::r=>lu i r
 |⟨some j,_,_,p⟩::r=>match Nat.beq j i with
  |true=>some p
  |false=>lu i r
def gZ (s:Nat):List bg->Option Pred
 |[]=>none
 |⟨none,none,s',p⟩::r=>match Nat.beq s' s with
  |true=>some p
  |false=>gZ s r
 |_::r=>gZ s r
def Kz (ms:List Nat) (i s:Nat):List Al->Option Al
 |[]=>none
 |⟨t,s',v,o,c⟩::r=>match Nat.beq s' s&&qQ ms i t with
  |true=>some ⟨t,s',v,o,c⟩
  |false=>Kz ms i s r
def I5 (i:Nat):List Al->Option Al
 |[]=>none
 |⟨none,_,_,_,_⟩::r=>I5 i r
 |⟨some j,s',v,o,c⟩::r=>match Nat.beq j i with
  |true=>some ⟨some j,s',v,o,c⟩
  |false=>I5 i r
def nA (id:Nat):List Vr->Option Vr
 |[]=>none
 |⟨d,s',b,e,kd,T,n,ag,c0,st⟩::r=>match Nat.beq d id with
  |true=>some ⟨d,s',b,e,kd,T,n,ag,c0,st⟩
  |false=>nA id r
def N2 (ms:List Nat) (i s:Nat):List Vr->Option Vr
 |[]=>none
 |⟨d,s',b,e,kd,T,n,ag,c0,st⟩::r=>match Nat.beq s' s&&(qQ ms i b&&jl ms i e)with
  |true=>some ⟨d,s',b,e,kd,T,n,ag,c0,st⟩
  |false=>N2 ms i s r
def Fb (i:Nat):List Vr->Option Vr
 |[]=>none
 |⟨_,_,none,_,_,_,_,_,_,_⟩::r=>Fb i r
 |⟨d,s',some j,e,kd,T,n,ag,c0,st⟩::r=>match Nat.beq j i with
  |true=>some ⟨d,s',some j,e,kd,T,n,ag,c0,st⟩
  |false=>Fb i r
def Qi (i:Nat):List (Nat×Rel)->Option (Rel×List (Nat×Rel))
 |[]=>none
 |(j,q)::r=>match Nat.beq j i with
  |true=>some (q,r)
  |false=>Qi i r
theorem dK {α:Type} {x:α} {r:List α} {y:α} (h:∃k:Nat,r[k]?=some y):∃k:Nat,(x::r)[k]?=some y:=h.elim λk hk=>⟨k+1,hk⟩
variable {ms:List Nat} {i s:Nat} {p:Pred}
theorem El:∀{G:List bg},CO ms i s G=some p->∃t f,(∃k:Nat,G[k]?=some ⟨t,f,s,p⟩)/\(qQ ms i t&&jl ms i f)=true:=by
 intro G
 induction G with
 |nil=>intro h; cases h
 |cons e r ih=>
  intro h
  obtain⟨t,f,s',p'⟩:=e
  unfold CO at h
  split at h
  ·rename_i hb
   rw[Bool.and_eq_true]at hb
   have h1:=Nat.eq_of_beq_eq_true hb.1
   subst h1
   cases h
   exact⟨t,f,⟨0,rfl⟩,hb.2⟩
  ·obtain⟨t,f,hk,h2⟩:=ih h
   exact⟨t,f,dK hk,h2⟩
variable {G:List bg}
theorem look (h:CO ms i s G=some p):Has ms G i (.tmp s) p:=by
 obtain⟨t,f,⟨k,hk⟩,h2⟩:=El h
 exact .tmp k hk h2
theorem post:∀{G:List bg},lu i G=some p->∃s f,∃k:Nat,G[k]?=some ⟨some i,f,s,p⟩:=by
 intro G
 induction G with
 |nil=>intro h; cases h
 |cons e r ih=>
  intro h
  obtain⟨t,f,s',p'⟩:=e
  cases t with
  |none=>obtain⟨s,f,hk⟩:=ih h; exact⟨s,f,dK hk⟩
  |some j=>
   simp only[lu]at h
   split at h
   ·rename_i hb
    have hb:=Nat.eq_of_beq_eq_true hb
    subst hb
    cases h
    exact⟨s',f,0,rfl⟩
   ·obtain⟨s,f,hk⟩:=ih h; exact⟨s,f,dK hk⟩
theorem pt (h:lu i G=some p):Post G i p:=by
 obtain⟨s,f,k,hk⟩:=post h
 exact .here k hk
variable {φ:Prop}
theorem W8 (hφ:φ) (h:lu i G=some (qj φ p)):Post G i p:=by
 obtain⟨s,f,k,hk⟩:=post h
 exact .NV hφ k hk
theorem UR (hφ:¬φ) (h:lu i G=some (qj φ p)):Post G i (bW undef):=by
 obtain⟨s,f,k,hk⟩:=post h
 exact .Ny hφ k hk
theorem eL:∀{G:List bg},gZ s G=some p->∃k:Nat,G[k]?=some ⟨none,none,s,p⟩:=by
 intro G
 induction G with
 |nil=>intro h; cases h
 |cons e r ih=>
  intro h
  obtain⟨t,f,s',p'⟩:=e
  cases t with
  |some _=>exact dK (ih h)
  |none=>
   cases f with
   |some _=>exact dK (ih h)
   |none=>
    simp only[gZ]at h
    split at h
    ·rename_i hb
     have hb:=Nat.eq_of_beq_eq_true hb
     subst hb
     cases h
     exact⟨0,rfl⟩
    ·exact dK (ih h)
variable {al:Al}
theorem qZ:∀{A:List Al},Kz ms i s A=some al->(∃k:Nat,A[k]?=some al)/\al.slot=s/\qQ ms i al.tag=true:=by
 intro A
 induction A with
 |nil=>intro h; cases h
 |cons e r ih=>
  intro h
  obtain⟨t,s',v,o,c⟩:=e
  unfold Kz at h
  split at h
  ·rename_i hb
   rw[Bool.and_eq_true]at hb
   cases h
   exact⟨⟨0,rfl⟩,Nat.eq_of_beq_eq_true hb.1,hb.2⟩
  ·obtain⟨h1,h2⟩:=ih h
   exact⟨dK h1,h2⟩
theorem oc:∀{A:List Al},I5 i A=some al->(∃k:Nat,A[k]?=some al)/\al.tag=some i:=by
 intro A
 induction A with
 |nil=>intro h; cases h
 |cons e r ih=>
  intro h
  obtain⟨t,s',v,o,c⟩:=e
  cases t with
  |none=>obtain⟨h1,h2⟩:=ih h; exact⟨dK h1,h2⟩
  |some j=>
   simp only[I5]at h
   split at h
   ·rename_i hb
    have hb:=Nat.eq_of_beq_eq_true hb
    subst hb
    cases h
    exact⟨⟨0,rfl⟩,rfl⟩
   ·obtain⟨h1,h2⟩:=ih h; exact⟨dK h1,h2⟩
variable {x:Vr}
theorem fl {id:Nat}:∀{V:List Vr},nA id V=some x->(∃k:Nat,V[k]?=some x)/\id=x.id:=by
 intro V
 induction V with
 |nil=>intro h; cases h
 |cons e r ih=>
  intro h
  obtain⟨d,s',b,e,kd,T,n,ag,c0,st⟩:=e
  unfold nA at h
  split at h
  ·rename_i hb
   cases h
   exact⟨⟨0,rfl⟩,(Nat.eq_of_beq_eq_true hb).symm⟩
  ·obtain⟨h1,h2⟩:=ih h
   exact⟨dK h1,h2⟩
theorem xJ:∀{V:List Vr},N2 ms i s V=some x->(∃k:Nat,V[k]?=some x)/\x.slot=s/\bU ms i x=true:=by
 intro V
 induction V with
 |nil=>intro h; cases h
 |cons e r ih=>
  intro h
  obtain⟨d,s',b,e,kd,T,n,ag,c0,st⟩:=e
  unfold N2 at h
  split at h
  ·rename_i hb
   rw[Bool.and_eq_true]at hb
   cases h
   exact⟨⟨0,rfl⟩,Nat.eq_of_beq_eq_true hb.1,hb.2⟩
  ·obtain⟨h1,h2⟩:=ih h
   exact⟨dK h1,h2⟩
theorem kZ:∀{V:List Vr},Fb i V=some x->(∃k:Nat,V[k]?=some x)/\x.born=some i:=by
 intro V
 induction V with
 |nil=>intro h; cases h
 |cons e r ih=>
  intro h
  obtain⟨d,s',b,e,kd,T,n,ag,c0,st⟩:=e
  cases b with
  |none=>obtain⟨h1,h2⟩:=ih h; exact⟨dK h1,h2⟩
  |some j=>
   simp only[Fb]at h
   split at h
   ·rename_i hb
    have hb:=Nat.eq_of_beq_eq_true hb
    subst hb
    cases h
    exact⟨⟨0,rfl⟩,rfl⟩
   ·obtain⟨h1,h2⟩:=ih h; exact⟨dK h1,h2⟩
theorem Dn {q:Rel} {r:List (Nat×Rel)}:∀{st:List (Nat×Rel)},Qi i st=some (q,r)->∃m,st[m]?=some (i,q)/\st.drop (m+1)=r:=by
 intro st
 induction st with
 |nil=>intro h; cases h
 |cons e l ih=>
  intro h
  obtain⟨j,q'⟩:=e
  unfold Qi at h
  split at h
  ·rename_i hb
   have hb:=Nat.eq_of_beq_eq_true hb
   subst hb
   cases h
   exact⟨0,rfl,rfl⟩
  ·obtain⟨m,h1,h2⟩:=ih h
   exact⟨m+1,h1,h2⟩
section
variable {P:Program} {ops:Array Oper} {ms:List Nat} {c:dM} {V:List Vr} {A:List Al} {G:List bg} {i:Nat}{d:Nat} {x y z:Operand} {ty:TypeId} {pos:String} {aR:Array Edge}{t u:TypeId} {m n:Int} {k:IntKind}
theorem Lm (h1:Has ms G i x (bW (.int k m))) (h2:Has ms G i y (bW (.int k n))) (hp:Post G i (pB (decide (m<n)))):OpOk P ops ms c V A G i ⟨some d,.binOp .lss t x y u,ty,pos,aR,none⟩:=ig h1 h2 (λ_=>by cases k<;>rfl) hp
theorem Ll (h1:Has ms G i x (bW (.int k m))) (h2:Has ms G i y (bW (.int k n))) (hp:Post G i (pB (decide (m<=n)))):OpOk P ops ms c V A G i ⟨some d,.binOp .leq t x y u,ty,pos,aR,none⟩:=ig h1 h2 (λ_=>by cases k<;>rfl) hp
theorem Lj (h1:Has ms G i x (bW (.int k m))) (h2:Has ms G i y (bW (.int k n))) (hp:Post G i (pB (decide (m>n)))):OpOk P ops ms c V A G i ⟨some d,.binOp .gtr t x y u,ty,pos,aR,none⟩:=ig h1 h2 (λ_=>by cases k<;>rfl) hp
theorem Li (h1:Has ms G i x (bW (.int k m))) (h2:Has ms G i y (bW (.int k n))) (hp:Post G i (pB (decide (m>=n)))):OpOk P ops ms c V A G i ⟨some d,.binOp .geq t x y u,ty,pos,aR,none⟩:=ig h1 h2 (λ_=>by cases k<;>rfl) hp
theorem Lh (h1:Has ms G i x (bW (.int k m))) (h2:Has ms G i y (bW (.int k n))) (hp:Post G i (pB (decide (m=n)))):OpOk P ops ms c V A G i ⟨some d,.binOp .eql t x y u,ty,pos,aR,none⟩:=ig h1 h2 (v:=.bool (m==n)) (λ_=>by cases k<;>rfl) (by rw[show(m==n)=decide (m=n) by by_cases h:m=n<;>simp[h]]; exact hp)
theorem Lo (h1:Has ms G i x (bW (.int k m))) (h2:Has ms G i y (bW (.int k n))) (hp:Post G i (pB (decide (m≠n)))):OpOk P ops ms c V A G i ⟨some d,.binOp .neq t x y u,ty,pos,aR,none⟩:=ig h1 h2 (v:=.bool (m != n)) (λ_=>by cases k<;>rfl) (by rw[show(m != n)=decide (m≠n) by by_cases h:m=n<;>simp[h]]; exact hp)
theorem Lf (h1:Has ms G i x (pI m)) (h2:Has ms G i y (pI n)) (hp:Post G i (pI (m+n))) (hr:-9223372036854775808<=m+n/\m+n<=9223372036854775807:=by omega):OpOk P ops ms c V A G i ⟨some d,.binOp .add t x y u,ty,pos,aR,none⟩:=
 ig h1 h2 (v:=.int .i64 (IntKind.i64.wrap (m+n))) (λ_=>rfl) (by rw[IntWalk.i64_in _ hr]; exact hp)
theorem Lq (h1:Has ms G i x (pI m)) (h2:Has ms G i y (pI n)) (hp:Post G i (pI (m-n))) (hr:-9223372036854775808<=m-n/\m-n<=9223372036854775807:=by omega):OpOk P ops ms c V A G i ⟨some d,.binOp .sub t x y u,ty,pos,aR,none⟩:=
 ig h1 h2 (v:=.int .i64 (IntKind.i64.wrap (m-n))) (λ_=>rfl) (by rw[IntWalk.i64_in _ hr]; exact hp)
theorem Ln (h1:Has ms G i x (pI m)) (h2:Has ms G i y (pI n)) (hp:Post G i (pI (m*n))) (hr:-9223372036854775808<=m*n/\m*n<=9223372036854775807:=by omega):OpOk P ops ms c V A G i ⟨some d,.binOp .mul t x y u,ty,pos,aR,none⟩:=
 ig h1 h2 (v:=.int .i64 (IntKind.i64.wrap (m*n))) (λ_=>rfl) (by rw[IntWalk.i64_in _ hr]; exact hp)
variable {T:TypeId} {s:Nat} {v:Vr} {p:Pred}
theorem o_load (hv:N2 ms i s V=some v) (cO:v.kd=.ptr) (hst:(v.st.all λq=>(ms.getD i 0).testBit q.1||(ms.getD q.1 0).testBit i)=true)
  (hc:cont (λj=>(ms.getD i 0).testBit j) v.c0 v.st=pv p) (hp:Post G i p) (ht:Ty P T v.agg v.n):OpOk P ops ms c V A G i ⟨some d,.load T (.tmp s),ty,pos,aR,none⟩:=by
 obtain⟨⟨k,hk⟩,h1,h2⟩:=xJ hv
 exact oV k hk h1 h2 cO hst ht hc hp
variable {agg:Bool} {al:Al} {q:Pred}
theorem tg {n:Nat} (ha:Kz ms i s A=some al) (hv:nA al.var V=some v) (ho:bU ms i v=true) (cO:v.kd=.ptr) (hst:(v.st.all λq=>(ms.getD i 0).testBit q.1||(ms.getD q.1 0).testBit i)=true)
  (hc:cont (λj=>(ms.getD i 0).testBit j) v.c0 v.st=pv p) (ht:Ty P T agg n) (hq:∀w cs,cs.length=v.n->p w (av v.agg cs)->q w (av agg ((cs.drop al.off).take n))) (hcd:al.cond) (hp:Post G i q) (hlen:decide (al.off+n<=v.n)=true):OpOk P ops ms c V A G i ⟨some d,.load T (.tmp s),ty,pos,aR,none⟩:=by
 obtain⟨⟨k2,hk2⟩,h1,h2⟩:=qZ ha
 obtain⟨⟨k,hk⟩,h3⟩:=fl hv
 exact bM k hk k2 hk2 h1 h3 rfl h2 hcd ho cO hst ht hlen hc hq hp
variable {S f off:Nat}
theorem CT (ha:I5 i A=some al) (hv:nA al.var V=some v) (ho:bU ms i v=true) (cO:v.kd=.ptr) (hs:v.slot=s)
  (hf:∀b w,(Instr.fieldAt S (.pointer (some ⟨b,0,none⟩)) f).run P w=.ok (.pointer (some ⟨b,off,none⟩)) w) (gU:al.off=off) (hu:(A.filter λq=>q.tag==some i).length=1) (hno:(G.all λe=>e.tag != some i)=true):
  OpOk P ops ms c V A G i ⟨some d,.fieldAddr S (.tmp s) f,ty,pos,aR,none⟩:=by
 obtain⟨⟨k2,hk2⟩,h1⟩:=oc ha
 obtain⟨⟨k,hk⟩,h3⟩:=fl hv
 exact bY k hk ho cO k2 hk2 h1 h3 gU (.inl ⟨hs.symm,rfl⟩) hu hno hf
variable {pJ:Al}
theorem vE (ha:I5 i A=some al) (ha0:Kz ms i s A=some pJ) (hv:nA al.var V=some v) (hv0:pJ.var=al.var) (ho:bU ms i v=true) (cO:v.kd=.ptr)
  (hf:∀b w,(Instr.fieldAt S (.pointer (some ⟨b,pJ.off,none⟩)) f).run P w=.ok (.pointer (some ⟨b,off,none⟩)) w) (gU:al.off=off) (hcd:pJ.cond) (hu:(A.filter λq=>q.tag==some i).length=1) (hno:(G.all λe=>e.tag != some i)=true):
  OpOk P ops ms c V A G i ⟨some d,.fieldAddr S (.tmp s) f,ty,pos,aR,none⟩:=by
 obtain⟨⟨k2,hk2⟩,h1⟩:=oc ha
 obtain⟨⟨k3,hk3⟩,h4,h5⟩:=qZ ha0
 obtain⟨⟨k,hk⟩,h3⟩:=fl hv
 exact bY k hk ho cO k2 hk2 h1 h3 gU (.inr ⟨k3,pJ,hk3,h4,hv0.trans h3,rfl,h5,hcd⟩) hu hno hf
theorem CU (ha:I5 i A=some al) (hv:nA al.var V=some v) (ho:bU ms i v=true) (cO:v.kd=.ptr) (hs:v.slot=s) (Po:Has ms G i y (pI n))
  (hf:∀b w,(Instr.indexAt S (.pointer (some ⟨b,0,none⟩)) (.int .i64 n)).run P w=.ok (.pointer (some ⟨b,off,none⟩)) w) (gU:al.off=off) (hu:(A.filter λq=>q.tag==some i).length=1) (hno:(G.all λe=>e.tag != some i)=true):
  OpOk P ops ms c V A G i ⟨some d,.indexAddr S (.tmp s) y,ty,pos,aR,none⟩:=by
 obtain⟨⟨k2,hk2⟩,h1⟩:=oc ha
 obtain⟨⟨k,hk⟩,h3⟩:=fl hv
 exact zJ k hk ho cO k2 hk2 h1 h3 gU (.inl ⟨hs.symm,rfl⟩) hu hno Po hf
theorem vF (ha:I5 i A=some al) (ha0:Kz ms i s A=some pJ) (hv:nA al.var V=some v) (hv0:pJ.var=al.var) (ho:bU ms i v=true) (cO:v.kd=.ptr) (Po:Has ms G i y (pI n))
  (hf:∀b w,(Instr.indexAt S (.pointer (some ⟨b,pJ.off,none⟩)) (.int .i64 n)).run P w=.ok (.pointer (some ⟨b,off,none⟩)) w) (gU:al.off=off) (hcd:pJ.cond) (hu:(A.filter λq=>q.tag==some i).length=1) (hno:(G.all λe=>e.tag != some i)=true):
  OpOk P ops ms c V A G i ⟨some d,.indexAddr S (.tmp s) y,ty,pos,aR,none⟩:=by
 obtain⟨⟨k2,hk2⟩,h1⟩:=oc ha
 obtain⟨⟨k3,hk3⟩,h4,h5⟩:=qZ ha0
 obtain⟨⟨k,hk⟩,h3⟩:=fl hv
 exact zJ k hk ho cO k2 hk2 h1 h3 gU (.inr ⟨k3,pJ,hk3,h4,hv0.trans h3,rfl,h5,hcd⟩) hu hno Po hf
variable {r:List (Nat×Rel)}
theorem CV (hv:N2 ms i s V=some v) (cO:v.kd=.ptr) (h:Has ms G i y p) (hm:Qi i v.st=some (pv p,r)) (hr:(r.all λr=>(ms.getD r.1 0).testBit i)=true) (ht:Ty P T v.agg v.n) (hf:Fits v.n v.agg p)
  (Bg:(V.all λy=>y.id==v.id||y.st.all λq=>q.1 != i)=true):OpOk P ops ms c V A G i ⟨none,.store T (.tmp s) y,ty,pos,aR,none⟩:=by
 obtain⟨⟨k,hk⟩,h1,h2⟩:=xJ hv
 obtain⟨m,h3,h4⟩:=Dn hm
 exact iU k hk h1 h2 cO m h3 (by rw[h4]; exact hr) Bg ht h hf
theorem vG {n:Nat} {q0:Pred} (ha:Kz ms i s A=some al) (hv:nA al.var V=some v) (ho:bU ms i v=true) (cO:v.kd=.ptr) (hst:(v.st.all λq=>q.1==i||((ms.getD i 0).testBit q.1||(ms.getD q.1 0).testBit i))=true)
  (hc:cont (λj=>(ms.getD i 0).testBit j) v.c0 v.st=pv q0) (h:Has ms G i y p) (ht:Ty P T agg n) (hq:∀w cs ds,cs.length=v.n->ds.length=n->q0 w (av v.agg cs)->p w (av agg ds)->q w (av v.agg (cs.take al.off++ds++cs.drop (al.off+n))))
  (hm:Qi i v.st=some (pv q,r)) (hr:(r.all λr=>(ms.getD r.1 0).testBit i)=true) (hcd:al.cond) (hf:Fits n agg p) (hlen:decide (al.off+n<=v.n)=true)
  (Bg:(V.all λy=>y.id==v.id||y.st.all λq=>q.1 != i)=true):OpOk P ops ms c V A G i ⟨none,.store T (.tmp s) y,ty,pos,aR,none⟩:=by
 obtain⟨⟨k2,hk2⟩,h1,h2⟩:=qZ ha
 obtain⟨⟨k,hk⟩,h3⟩:=fl hv
 obtain⟨m,h5,h6⟩:=Dn hm
 exact BH k hk k2 hk2 h1 h3 rfl h2 hcd ho cO hst m h5 (by rw[h6]; exact hr) Bg ht hlen hc h hf hq
theorem J0 (l:List Zl) (hv:Fb i V=some v) (hT:v.T=T) (cO:v.kd=.ptr) (hc:v.c0=pv (pS (l.map Zl.fd))) (DY:v.agg=true)
  (hz:∀w,(zeroValue T).run P w=.ok (.agg (l.flatMap Zl.cs).toArray) w) (hl:(l.flatMap Zl.cs).length=v.n) (hst:((v.st.all λq=>(ms.getD q.1 0).testBit i)&&V.all λy=>y.dead != some i)=true) (hno:(G.all λe=>e.tag != some i)=true) (gU:(A.all λp=>p.var != v.id||p.tag.any λj=>(ms.getD j 0).testBit i)=true):
  OpOk P ops ms c V A G i ⟨some d,.alloc T,ty,pos,aR,none⟩:=by
 obtain⟨⟨k,hk⟩,hb⟩:=kZ hv
 exact jZ k hk hb hst hno gU hT cO hz rfl hl (Ca l) hc λw=>by rw[DY]; exact B9 l w
theorem G6 (l:Zl) {z:Value} (hl:l.cs=[z]) (hv:Fb i V=some v) (hT:v.T=T) (cO:v.kd=.ptr) (hc:v.c0=pv l.fd.p) (DY:v.agg=false) (hn:v.n=1)
  (hz:∀w,(zeroValue T).run P w=.ok z w) (wX:z.cells=[z].toArray) (hp:∀w,l.fd.p w z) (hst:((v.st.all λq=>(ms.getD q.1 0).testBit i)&&V.all λy=>y.dead != some i)=true) (hno:(G.all λe=>e.tag != some i)=true) (gU:(A.all λp=>p.var != v.id||p.tag.any λj=>(ms.getD j 0).testBit i)=true):
  OpOk P ops ms c V A G i ⟨some d,.alloc T,ty,pos,aR,none⟩:=by
 obtain⟨⟨k,hk⟩,hb⟩:=kZ hv
 exact jZ k hk hb hst hno gU hT cO hz wX hn.symm (λu hu=>Ca [l] u (by simpa [hl] using hu)) hc λw=>by rw[DY]; exact hp w
theorem P8 (hv:Fb i V=some v) (hT:v.T=T) (cO:v.kd=.ptr) (h:Has ms G i x p) (hc:v.c0=pv p) (hf:Fits v.n v.agg p) (hst:((v.st.all λq=>(ms.getD q.1 0).testBit i)&&V.all λy=>y.dead != some i)=true) (hno:(G.all λe=>e.tag != some i)=true) (gU:(A.all λp=>p.var != v.id||p.tag.any λj=>(ms.getD j 0).testBit i)=true):
  OpOk P ops ms c V A G i ⟨some d,.box T x,ty,pos,aR,none⟩:=by
 obtain⟨⟨k,hk⟩,hb⟩:=kZ hv
 exact tn k hk hb hst hno gU hT cO h hf hc
variable {j:Nat} {b cb:Bool}
theorem Tm {op:Op} {dst:Option Nat} (hg:lu j G=some (pB cb)) (h:cb=b->OpOk P ops ms c V A G i ⟨dst,op,ty,pos,aR,none⟩) (hA:¬cb=b->uh A i) (hp:¬cb=b->Post G i (bW undef))
  (hj:(G.all λe=>e.tag != some j||((ms.getD i 0).testBit j&&jl ms i e.till))=true) (hb:(V.all λx=>(x.born != some i&&x.dead != some i)&&x.st.all λq=>q.1 != i)=true):OpOk P ops ms c V A G i ⟨dst,op,ty,pos,aR,some (j,b)⟩:=by
 obtain⟨s,f,k,hk⟩:=post hg
 have:=List.all_eq_true.1 hj _ (List.mem_of_getElem? hk)
 exact Qb k hk (by simpa using this) h hb hA hp
theorem P9 {φ:Prop} [Decidable φ] {op:Op} {dst:Option Nat} (hg:lu j G=some (qj φ (pB cb))) (h:φ/\cb=b->OpOk P ops ms c V A G i ⟨dst,op,ty,pos,aR,none⟩) (hA:¬(φ/\cb=b)->uh A i) (hp:¬(φ/\cb=b)->Post G i (bW undef))
  (hj:(G.all λe=>e.tag != some j||((ms.getD i 0).testBit j&&jl ms i e.till))=true) (hb:(V.all λx=>(x.born != some i&&x.dead != some i)&&x.st.all λq=>q.1 != i)=true):OpOk P ops ms c V A G i ⟨dst,op,ty,pos,aR,some (j,b)⟩:=by
 obtain⟨s,f,k,hk⟩:=post hg
 have:=List.all_eq_true.1 hj _ (List.mem_of_getElem? hk)
 exact Nd k hk (by simpa using this) h hb hA hp
end
end Wx
