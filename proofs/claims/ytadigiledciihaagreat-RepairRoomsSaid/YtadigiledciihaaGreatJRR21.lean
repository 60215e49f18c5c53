import Derived.Test.YtadigiledciihaaGreatJRR20
namespace Wx
open Go Go.RowKit
def pn:List Fd->Nat->Option (List Fd)
 |[],n=>match Nat.beq n 0 with
  |true=>some []
  |false=>none
 |⟨ag,m,p⟩::fs,n=>match Nat.beq n 0 with
  |true=>some []
  |false=>match Nat.ble m n with
   |true=>match pn fs (Nat.sub n m)with
    |some l=>some (⟨ag,m,p⟩::l)
    |none=>none
   |false=>none
def vw:List Fd->Nat->Nat->Option (List Fd)
 |[],_,n=>pn [] n
 |⟨ag,m,p⟩::fs,off,n=>match Nat.beq off 0 with
  |true=>pn (⟨ag,m,p⟩::fs) n
  |false=>match Nat.ble m off with
   |true=>vw fs (Nat.sub off m) n
   |false=>none
def Eb:Bool->Option (List Fd)->Option Pred
 |true,some [⟨true,_,p⟩]=>some p
 |true,some l=>some (pS l)
 |false,some [⟨false,_,p⟩]=>some p
 |_,_=>none
def tj:List Fd->Nat->Option (List Fd)
 |[],n=>match Nat.beq n 0 with
  |true=>some []
  |false=>none
 |⟨ag,m,p⟩::fs,n=>match Nat.beq n 0 with
  |true=>some (⟨ag,m,p⟩::fs)
  |false=>match Nat.ble m n with
   |true=>tj fs (Nat.sub n m)
   |false=>none
def wh:List Fd->Option (List Fd)->Option (List Fd)
 |[],r=>r
 |g::gs,r=>match wh gs r with
  |some l=>some (g::l)
  |none=>none
def tV (gs:List Fd) (n:Nat):List Fd->Nat->Option (List Fd)
 |[],_=>match Nat.beq n 0 with
  |true=>wh gs (some [])
  |false=>none
 |⟨ag,m,p⟩::fs,off=>match Nat.beq off 0 with
  |true=>wh gs (tj (⟨ag,m,p⟩::fs) n)
  |false=>match Nat.ble m off with
   |true=>match tV gs n fs (Nat.sub off m)with
    |some l=>some (⟨ag,m,p⟩::l)
    |none=>none
   |false=>none
theorem EW:∀{fs:List Fd} {n:Nat} {l:List Fd} {w:World} {cs:List Value},pn fs n=some l->aH fs w cs->aH l w (cs.take n)/\n<=cs.length:=by
 intro fs
 induction fs with
 |nil=>
  intro n l w cs h hc
  unfold pn at h
  split at h
  ·rename_i hb; have hb:=Nat.eq_of_beq_eq_true hb; subst hb; cases h; exact⟨rfl,Nat.zero_le _⟩
  ·cases h
 |cons f fs ih=>
  intro n l w cs h hc
  obtain⟨ag,m,p⟩:=f
  unfold pn at h
  split at h
  ·rename_i hb; have hb:=Nat.eq_of_beq_eq_true hb; subst hb; cases h; exact⟨rfl,Nat.zero_le _⟩
  ·split at h
   ·rename_i hm
    have hm:=Nat.le_of_ble_eq_true hm
    split at h
    ·rename_i l' hl
     cases h
     obtain⟨h1,h2,h3⟩:=hc
     obtain⟨k1,k2⟩:=ih hl h3
     simp only[List.length_drop]at k2 h1
     have k2:n-m<=cs.length-m:=k2
     refine⟨⟨?_,?_,?_⟩,by omega⟩
     ·show m<=(cs.take n).length; rw[List.length_take]; omega
     ·show p w (ak ag ((cs.take n).take m)); rw[List.take_take,Nat.min_eq_left hm]; exact h2
     ·show aH l' w ((cs.take n).drop m); rw[List.drop_take]; exact k1
    ·cases h
   ·cases h
theorem AW:∀{fs:List Fd} {off n:Nat} {l:List Fd} {w:World} {cs:List Value},vw fs off n=some l->aH fs w cs->aH l w ((cs.drop off).take n)/\n+off<=cs.length+(if n=0 then off else 0):=by
 intro fs
 induction fs with
 |nil=>
  intro off n l w cs h hc
  have hn:n=0:=by
   unfold vw pn at h
   split at h
   ·rename_i hb; exact Nat.eq_of_beq_eq_true hb
   ·cases h
  subst hn
  have:cs=[]:=hc
  subst this
  have h:pn [] 0=some l:=h
  cases h
  simp[aH]
 |cons f fs ih=>
  intro off n l w cs h hc
  obtain⟨ag,m,p⟩:=f
  unfold vw at h
  split at h
  ·rename_i hb; have hb:=Nat.eq_of_beq_eq_true hb; subst hb
   obtain⟨k1,k2⟩:=EW h hc
   exact⟨by rw[List.drop_zero]; exact k1,by omega⟩
  ·split at h
   ·rename_i hm
    have hm:=Nat.le_of_ble_eq_true hm
    obtain⟨h1,h2,h3⟩:=hc
    obtain⟨k1,k2⟩:=ih h h3
    rw[List.drop_drop]at k1
    have e:m+Nat.sub off m=off:=by show m+(off-m)=off; omega
    rw[show(({ agg:=ag,n:=m,p:=p }:Fd).n+Nat.sub off m)=off from e]at k1
    refine⟨k1,?_⟩
    rw[List.length_drop]at k2
    have h1:m<=cs.length:=h1
    have k2:n+(off-m)<=cs.length-m+(if n=0 then off-m else 0):=k2
    split at k2<;>rename_i hn
    ·rw[if_pos hn]; omega
    ·rw[if_neg hn]; omega
   ·cases h
variable {ag:Bool} {q:Pred}
theorem AE {l:List Fd} {w:World} {ds:List Value} (h:Eb ag (some l)=some q) (hc:aH l w ds):q w (ak ag ds):=by
 unfold Eb at h
 split at h
 ·rename_i _ e
  cases h
  cases e
  obtain⟨h1,h2,h3⟩:=hc
  have h3:ds.drop _=[]:=h3
  have:ds.take _=ds:=List.take_of_length_le (List.drop_eq_nil_iff.1 h3)
  rw[this]at h2
  exact h2
 ·rename_i _ e
  cases h
  cases e
  exact⟨ds,rfl,hc⟩
 ·rename_i _ e
  cases h
  cases e
  obtain⟨h1,h2,h3⟩:=hc
  have h3:ds.drop _=[]:=h3
  have:ds.take _=ds:=List.take_of_length_le (List.drop_eq_nil_iff.1 h3)
  rw[this]at h2
  exact h2
 ·cases h
variable {fs:List Fd} {off n N:Nat}
theorem xh (h:Eb ag (vw fs off n)=some q):∀w cs,cs.length=N->pS fs w (ak true cs)->q w (ak ag ((cs.drop off).take n)):=by
 rintro w cs _ ⟨ds,e,hd⟩
 have:=ck (show ak true cs=ak true ds from e)
 subst this
 cases hs:vw fs off n with
 |none=>rw[hs]at h; cases ag<;>cases h
 |some l=>rw[hs]at h; exact AE h (AW hs hd).1
theorem C8:∀{fs:List Fd} {n:Nat} {l:List Fd} {w:World} {cs:List Value},tj fs n=some l->aH fs w cs->aH l w (cs.drop n):=by
 intro fs
 induction fs with
 |nil=>
  intro n l w cs h hc
  unfold tj at h
  split at h
  ·cases h; have:cs=[]:=hc; subst this; simp[aH]
  ·cases h
 |cons f fs ih=>
  intro n l w cs h hc
  obtain⟨ag,m,p⟩:=f
  unfold tj at h
  split at h
  ·rename_i hb; have hb:=Nat.eq_of_beq_eq_true hb; subst hb; cases h; exact hc
  ·split at h
   ·rename_i hm
    have hm:=Nat.le_of_ble_eq_true hm
    have:=ih h hc.2.2
    rw[List.drop_drop]at this
    rwa [show(({ agg:=ag,n:=m,p:=p }:Fd).n+Nat.sub n m)=n from(show m+(n-m)=n by omega)]at this
   ·cases h
theorem uu:∀{gs r l:List Fd} {w:World} {ds es:List Value},wh gs (some r)=some l->aH gs w ds->aH r w es->aH l w (ds++es):=by
 intro gs
 induction gs with
 |nil=>intro r l w ds es h hd he; cases h; have:ds=[]:=hd; subst this; exact he
 |cons g gs ih=>
  intro r l w ds es h hd he
  unfold wh at h
  split at h
  ·rename_i l' hl
   cases h
   obtain⟨h1,h2,h3⟩:=hd
   refine⟨by rw[List.length_append]; omega,?_,?_⟩
   ·rw[List.take_append_of_le_length h1]; exact h2
   ·rw[List.drop_append_of_le_length h1]; exact ih hl h3 he
  ·cases h
theorem Bg:∀{gs:List Fd},wh gs none=none:=by
 intro gs
 induction gs with
 |nil=>rfl
 |cons g gs ih=>unfold wh; rw[ih]
theorem xN:∀{fs gs hs:List Fd} {off n:Nat} {w:World} {cs ds:List Value},tV gs n fs off=some hs->aH fs w cs->aH gs w ds->ds.length=n->aH hs w (cs.take off++ds++cs.drop (off+n)):=by
 intro fs
 induction fs with
 |nil=>
  intro gs hs off n w cs ds h hc hd hl
  unfold tV at h
  split at h
  ·rename_i hb; have hb:=Nat.eq_of_beq_eq_true hb; subst hb
   have:cs=[]:=hc
   subst this
   have:=uu h hd (show aH [] w []from rfl)
   simpa using this
  ·cases h
 |cons f fs ih=>
  intro gs hs off n w cs ds h hc hd hl
  obtain⟨ag,m,p⟩:=f
  unfold tV at h
  split at h
  ·rename_i hb; have hb:=Nat.eq_of_beq_eq_true hb; subst hb
   cases hr:tj (⟨ag,m,p⟩::fs) n with
   |none=>rw[hr,Bg]at h; cases h
   |some r=>
    rw[hr]at h
    have:=uu h hd (C8 hr hc)
    simpa using this
  ·split at h
   ·rename_i hm
    have hm:=Nat.le_of_ble_eq_true hm
    split at h
    ·rename_i l hl'
     cases h
     obtain⟨h1,h2,h3⟩:=hc
     have h1:m<=cs.length:=h1
     have h2:p w (ak ag (cs.take m)):=h2
     have:=ih hl' h3 hd hl
     have e:m+Nat.sub off m=off:=by show m+(off-m)=off; omega
     have hlen:m<=(cs.take off).length:=by rw[List.length_take]; omega
     have e2:(cs.take off++ds++cs.drop (off+n))=cs.take off++(ds++cs.drop (off+n)):=by rw[List.append_assoc]
     refine⟨?_,?_,?_⟩
     ·show m<=_; rw[e2,List.length_append]; omega
     ·show p w (ak ag (List.take m _)); rw[e2,List.take_append_of_le_length hlen,List.take_take,Nat.min_eq_left hm]; exact h2
     ·show aH l w (List.drop m _)
      rw[e2,List.drop_append_of_le_length hlen,List.drop_take]
      have this:aH l w ((cs.drop m).take (off-m)++ds++(cs.drop m).drop ((off-m)+n)):=this
      rw[List.drop_drop,show m+(off-m+n)=off+n by omega,List.append_assoc]at this
      exact this
    ·cases h
   ·cases h
variable {hs:List Fd}
theorem Cu (h:tV [⟨ag,n,q⟩] n fs off=some hs):
  ∀w cs ds,cs.length=N->ds.length=n->pS fs w (ak true cs)->q w (ak ag ds)->pS hs w (ak true (cs.take off++ds++cs.drop (off+n))):=by
 rintro w cs ds _ hl ⟨es,e,hc⟩ hq
 have:=ck (show ak true cs=ak true es from e)
 subst this
 exact⟨_,rfl,xN h hc (show aH [⟨ag,n,q⟩] w ds from⟨by show n<=_; omega,by show q w (ak ag (ds.take n)); rw[List.take_of_length_le (by omega)]; exact hq,List.drop_eq_nil_iff.2 (by show ds.length<=n; omega)⟩) hl⟩
theorem Cv {gs:List Fd} (h:tV gs n fs off=some hs):
  ∀w cs ds,cs.length=N->ds.length=n->pS fs w (ak true cs)->pS gs w (ak true ds)->pS hs w (ak true (cs.take off++ds++cs.drop (off+n))):=by
 rintro w cs ds _ hl ⟨es,e,hc⟩ ⟨es',e',hd⟩
 have:=ck (show ak true cs=ak true es from e)
 subst this
 have:=ck (show ak true ds=ak true es' from e')
 subst this
 exact⟨_,rfl,xN h hc hd hl⟩
def pQ (F:Rat->Pred) (j:Nat) (x:Rat):Pred:=λw v=>dL j x/\F x w v
abbrev pR (j:Nat) (x:Rat):Pred:=pQ bA j x
abbrev pN (j:Nat) (x:Rat):Pred:=pQ dX j x
variable {F:Rat->Pred} {j:Nat} {x:Rat}
theorem xC (h:dL j x):∀w v,F x w v->pQ F j x w v:=λ_ _ k=>⟨h,k⟩
variable {k:Nat}
theorem xB (h:j<=k):∀w v,pQ F j x w v->pQ F k x w v:=λ_ _ q=>⟨q.1.mono h,q.2⟩
theorem Na {y:Rat} (e:x=y) (h:j<=k):∀w v,pQ F j x w v->pQ F k y w v:=e▸xB h
theorem mH:aA (pR j x):=λM w v hM h=>λw' he=>⟨h.1,dy x M w v hM h.2 w' he⟩
theorem mG:aA (pN j x):=λM w v hM h=>λw' he=>⟨h.1,dz x M w v hM h.2 w' he⟩
theorem nc:Fits 3 true (pR j x):=λw v h=>kM x w v h.2
theorem uA:Fits 3 true (pN j x):=λw v h=>kN x w v h.2
inductive Zl
 |r|f|i|b|n|s
def Zl.fd:Zl->Fd
 |.r=>⟨true,3,pR 1 0⟩
 |.f=>⟨true,3,fo⟩
 |.i=>⟨false,1,pI 0⟩
 |.b=>⟨false,1,pB false⟩
 |.n=>⟨false,1,bN (.slice none 0 0)⟩
 |.s=>⟨false,1,bN (.string ⟨#[]⟩)⟩
def Zl.cs:Zl->List Value
 |.r|.f=>[.bool false,.slice none 0 0,.slice none 0 0]
 |.i=>[.int .i64 0]
 |.b=>[.bool false]
 |.n=>[.slice none 0 0]
 |.s=>[.string ⟨#[]⟩]
theorem SH:dL 1 (0:Rat):=⟨by show(0:Rat).num.natAbs<2^1; decide,by show(0:Rat).den<2^1; decide⟩
theorem I1 (w:World):∀l:List Zl,aH (l.map Zl.fd) w (l.flatMap Zl.cs):=by
 intro l
 induction l with
 |nil=>rfl
 |cons z l ih=>
  have e:(Zl.fd z).n=(Zl.cs z).length:=by cases z<;>rfl
  have hp:(Zl.fd z).p w (ak (Zl.fd z).agg (Zl.cs z)):=by
   cases z
   ·exact⟨SH,mD w⟩
   ·trivial
   all_goals rfl
  show(Zl.fd z).n<=_/\_/\_
  rw[List.flatMap_cons,List.length_append,List.take_append_of_le_length (by omega),List.take_of_length_le (by omega),List.drop_append_of_le_length (by omega),List.drop_of_length_le (by omega)]
  exact⟨by omega,hp,ih⟩
theorem zL:∀l:List Zl,∀u∈l.flatMap Zl.cs,gK u:=by
 intro l u hu
 obtain⟨z,_,hz⟩:=List.mem_flatMap.1 hu
 cases z<;>simp[Zl.cs]at hz<;>(try rcases hz with rfl|rfl)<;>(try subst hz)<;>intro n<;>simp
theorem zK (l:List Zl) (w:World):pS (l.map Zl.fd) w (ak true (l.flatMap Zl.cs)):=⟨_,rfl,I1 w l⟩
def wN (F:Rat->Pred) (j:Nat) (x:Rat):Fd:=⟨true,3,pQ F j x⟩
def pV (F:Rat->Pred) (j:Nat) (l:List Rat):Pred:=pS (l.map (wN F j))
section
variable {F:Rat->Pred} {j k:Nat} {l:List Rat}
theorem IQ (h:j<=k):∀{l:List Rat} {w:World} {cs:List Value},aH (l.map (wN F j)) w cs->aH (l.map (wN F k)) w cs
 |[],_,_,h=>h
 |_::_,_,_,⟨h1,h2,h3⟩=>⟨h1,xB h _ _ h2,IQ h h3⟩
theorem AK (h:j<=k):∀w v,pV F j l w v->pV F k l w v:=λ_ _ ⟨cs,e,hc⟩=>⟨cs,e,IQ h hc⟩
theorem Nc {l':List Rat} (e:l=l') (h:j<=k):∀w v,pV F j l w v->pV F k l' w v:=e▸AK h
theorem Em:∀{l:List Rat} {w:World} {cs:List Value},aH (l.map (wN F j)) w cs->cs.length=3*l.length
 |[],_,_,h=>by rw[show _=[]from h]; rfl
 |_::l,_,cs,⟨h1,_,h3⟩=>by
  have:=Em h3
  have h1:3<=cs.length:=h1
  have:cs.length-3=3*l.length:=by rw[<-List.length_drop]; exact this
  rw[List.length_cons]; omega
theorem AH:∀{l:List Rat} {w:World} {cs:List Value} (q:Nat),aH (l.map (wN F j)) w cs->aH ((l.drop q).map (wN F j)) w (cs.drop (q*3))
 |l,_,_,0,h=>by rw[Nat.zero_mul,List.drop_zero,List.drop_zero]; exact h
 |[],_,_,_+1,h=>by rw[show _=[]from h]; rfl
 |_::_,_,_,q+1,⟨_,_,h3⟩=>by
  have:=AH q h3
  rw[List.drop_drop,show(wN F j _).n+q*3=(q+1)*3 from(show 3+q*3=(q+1)*3 by omega)]at this
  exact this
theorem AI:∀{l:List Rat} {w:World} {cs:List Value} (q:Nat),aH (l.map (wN F j)) w cs->aH ((l.take q).map (wN F j)) w (cs.take (q*3))
 |l,_,_,0,_=>by rw[Nat.zero_mul,List.take_zero,List.take_zero]; rfl
 |[],_,_,_+1,h=>by rw[show _=[]from h]; rfl
 |_::_,w,cs,q+1,⟨h1,h2,h3⟩=>by
  have h1:3<=cs.length:=h1
  refine⟨?_,?_,?_⟩
  ·show 3<=(cs.take ((q+1)*3)).length; rw[List.length_take]; omega
  ·show pQ F j _ w (ak true ((cs.take ((q+1)*3)).take 3)); rw[List.take_take,Nat.min_eq_left (by omega)]; exact h2
  ·show aH _ w ((cs.take ((q+1)*3)).drop 3); rw[List.drop_take,show(q+1)*3-3=q*3 by omega]; exact AI q h3
theorem Ko {x:Rat} {w:World} {ds:List Value} (hl:ds.length=3):aH ([x].map (wN F j)) w ds↔pQ F j x w (ak true ds):=by
 refine⟨λ⟨_,h2,_⟩=>?_,λh=>⟨by show 3<=_; omega,?_,List.drop_eq_nil_iff.2 (by show _<=3; omega)⟩⟩
 ·have h2:pQ F j x w (ak true (ds.take 3)):=h2
  rwa [List.take_of_length_le (by omega)]at h2
 ·show pQ F j x w (ak true (ds.take 3))
  rwa [List.take_of_length_le (by omega)]
theorem qR {l:List Rat} {q:Nat} (h:q<l.length):(l.drop q).take 1=[l.getD q 0]:=by
 rw[List.drop_eq_getElem_cons h,List.take_succ_cons,List.take_zero,List.getD_eq_getElem?_getD,List.getElem?_eq_getElem h]; rfl
variable {off:Nat}
theorem Ks (q m:Nat) (ho:off=q*3) {N:Nat}:∀w cs,cs.length=N->pV F j l w (ak true cs)->pV F j ((l.drop q).take m) w (ak true ((cs.drop off).take (m*3))):=by
 rintro w cs _ ⟨ds,e,h⟩
 have:=ck (show ak true cs=ak true ds from e)
 subst this ho
 exact⟨_,rfl,AI m (AH q h)⟩
theorem Kr (q:Nat) (ho:off=q*3) (hq:q<l.length) {N:Nat}:∀w cs,cs.length=N->pV F j l w (ak true cs)->pQ F j (l.getD q 0) w (ak true ((cs.drop off).take 3)):=by
 intro w cs hN h
 obtain⟨ds,e,h⟩:=Ks q 1 ho w cs hN h
 rw[qR hq]at h
 have e:=ck (show ak true _=ak true ds from e)
 have hl:=Em h
 rw[Nat.one_mul]at e
 rw[e]
 exact(Ko hl).1 h
theorem ru (hF:∀x,aA (pQ F j x)):∀{l:List Rat} {M:Nat->Nat->Prop} {w:World} {cs:List Value},da M w->aH (l.map (wN F j)) w cs->aP M (λw=>aH (l.map (wN F j)) w cs) w
 |[],_,_,_,_,h=>λ_ _=>h
 |x::_,M,w,_,hM,⟨h1,h2,h3⟩=>λw' he=>⟨h1,hF x M w _ hM h2 w' he,ru hF hM h3 w' he⟩
theorem ry (hF:∀x,aA (pQ F j x)):aA (pV F j l):=by
 rintro M w v hM ⟨cs,rfl,h⟩ w' he
 exact⟨cs,rfl,ru hF hM h w' he⟩
theorem qv (hF:∀x,Fits 3 true (pQ F j x)):∀{l:List Rat},pL (l.map (wN F j))
 |[]=>trivial
 |x::_=>⟨hF x,qv hF⟩
theorem AQ:∀{l:List Rat},ki (l.map (wN F j))=l.length*3
 |[]=>rfl
 |_::l=>by show 3+ki (l.map (wN F j))=(l.length+1)*3; rw[AQ]; omega
theorem p8 (hF:∀x,Fits 3 true (pQ F j x)) {n:Nat} (hn:n=l.length*3):Fits n true (pV F j l):=oq (qv hF) (by rw[hn]; exact AQ)
inductive nY (F:Rat->Pred) (j:Nat):List Fd->List Rat->Prop
 |z:nY F j [] []
 |c {i:Nat} {x:Rat} {fs:List Fd} {l:List Rat} (h:i<=j):nY F j fs l->nY F j (⟨true,3,pQ F i x⟩::fs) (x::l)
variable {fs:List Fd}
theorem nY.ok (h:nY F j fs l):∀{w:World} {cs:List Value},aH fs w cs->aH (l.map (wN F j)) w cs:=by
 induction h with
 |z=>exactλh=>h
 |c hi _ ih=>exact λ⟨h1,h2,h3⟩=>⟨h1,xB hi _ _ h2,ih h3⟩
theorem nY.pV (h:nY F j fs l):∀w v,pS fs w v->Wx.pV F j l w v:=λ_ _ ⟨cs,e,hc⟩=>⟨cs,e,h.ok hc⟩
end
end Wx

namespace Wx
open Go Go.RowKit
def Au (ms:List Nat) (i s:Nat):List aV->Option Pred
 |[]=>none
 |⟨t,f,s',p⟩::r=>match Nat.beq s' s&&(pJ ms i t&&iz ms i f)with
  |true=>some p
  |false=>Au ms i s r
def jY (i:Nat):List aV->Option Pred
 |[]=>none
 |⟨none,_,_,_⟩::r=>jY i r
 |⟨some j,_,_,p⟩::r=>match Nat.beq j i with
  |true=>some p
  |false=>jY i r
def gB (s:Nat):List aV->Option Pred
 |[]=>none
 |⟨none,none,s',p⟩::r=>match Nat.beq s' s with
  |true=>some p
  |false=>gB s r
 |_::r=>gB s r
def Ht (ms:List Nat) (i s:Nat):List Al->Option Al
 |[]=>none
 |⟨t,s',v,o,c⟩::r=>match Nat.beq s' s&&pJ ms i t with
  |true=>some ⟨t,s',v,o,c⟩
  |false=>Ht ms i s r
def FB (i:Nat):List Al->Option Al
 |[]=>none
 |⟨none,_,_,_,_⟩::r=>FB i r
 |⟨some j,s',v,o,c⟩::r=>match Nat.beq j i with
  |true=>some ⟨some j,s',v,o,c⟩
  |false=>FB i r
def mh (id:Nat):List Vr->Option Vr
 |[]=>none
 |⟨d,s',b,e,kd,T,n,ag,c0,st⟩::r=>match Nat.beq d id with
  |true=>some ⟨d,s',b,e,kd,T,n,ag,c0,st⟩
  |false=>mh id r
def La (ms:List Nat) (i s:Nat):List Vr->Option Vr
 |[]=>none
 |⟨d,s',b,e,kd,T,n,ag,c0,st⟩::r=>match Nat.beq s' s&&(pJ ms i b&&iz ms i e)with
  |true=>some ⟨d,s',b,e,kd,T,n,ag,c0,st⟩
  |false=>La ms i s r
def CB (i:Nat):List Vr->Option Vr
 |[]=>none
 |⟨_,_,none,_,_,_,_,_,_,_⟩::r=>CB i r
 |⟨d,s',some j,e,kd,T,n,ag,c0,st⟩::r=>match Nat.beq j i with
  |true=>some ⟨d,s',some j,e,kd,T,n,ag,c0,st⟩
  |false=>CB i r
def Nh (i:Nat):List (Nat×Rel)->Option (Rel×List (Nat×Rel))
 |[]=>none
 |(j,q)::r=>match Nat.beq j i with
  |true=>some (q,r)
  |false=>Nh i r
theorem cV {α:Type} {x:α} {r:List α} {y:α} (h:∃k:Nat,r[k]?=some y):∃k:Nat,(x::r)[k]?=some y:=h.elim λk hk=>⟨k+1,hk⟩
variable {ms:List Nat} {i s:Nat} {p:Pred}
theorem BV:∀{G:List aV},Au ms i s G=some p->∃t f,(∃k:Nat,G[k]?=some ⟨t,f,s,p⟩)/\(pJ ms i t&&iz ms i f)=true:=by
 intro G
 induction G with
 |nil=>intro h; cases h
 |cons e r ih=>
  intro h
  obtain⟨t,f,s',p'⟩:=e
  unfold Au at h
  split at h
  ·rename_i hb
   rw[Bool.and_eq_true]at hb
   have h1:=Nat.eq_of_beq_eq_true hb.1
   subst h1
   cases h
   exact⟨t,f,⟨0,rfl⟩,hb.2⟩
  ·obtain⟨t,f,hk,h2⟩:=ih h
   exact⟨t,f,cV hk,h2⟩
variable {G:List aV}
theorem look (h:Au ms i s G=some p):Has ms G i (.tmp s) p:=by
 obtain⟨t,f,⟨k,hk⟩,h2⟩:=BV h
 exact .tmp k hk h2
theorem post:∀{G:List aV},jY i G=some p->∃s f,∃k:Nat,G[k]?=some ⟨some i,f,s,p⟩:=by
 intro G
 induction G with
 |nil=>intro h; cases h
 |cons e r ih=>
  intro h
  obtain⟨t,f,s',p'⟩:=e
  cases t with
  |none=>obtain⟨s,f,hk⟩:=ih h; exact⟨s,f,cV hk⟩
  |some j=>
   simp only[jY]at h
   split at h
   ·rename_i hb
    have hb:=Nat.eq_of_beq_eq_true hb
    subst hb
    cases h
    exact⟨s',f,0,rfl⟩
   ·obtain⟨s,f,hk⟩:=ih h; exact⟨s,f,cV hk⟩
theorem pt (h:jY i G=some p):Post G i p:=by
 obtain⟨s,f,k,hk⟩:=post h
 exact .here k hk
variable {φ:Prop}
theorem Ug (hφ:φ) (h:jY i G=some (oD φ p)):Post G i p:=by
 obtain⟨s,f,k,hk⟩:=post h
 exact .K5 hφ k hk
theorem R4 (hφ:¬φ) (h:jY i G=some (oD φ p)):Post G i (bN undef):=by
 obtain⟨s,f,k,hk⟩:=post h
 exact .KH hφ k hk
theorem en:∀{G:List aV},gB s G=some p->∃k:Nat,G[k]?=some ⟨none,none,s,p⟩:=by
 intro G
 induction G with
 |nil=>intro h; cases h
 |cons e r ih=>
  intro h
  obtain⟨t,f,s',p'⟩:=e
  cases t with
  |some _=>exact cV (ih h)
  |none=>
   cases f with
   |some _=>exact cV (ih h)
   |none=>
    simp only[gB]at h
    split at h
    ·rename_i hb
     have hb:=Nat.eq_of_beq_eq_true hb
     subst hb
     cases h
     exact⟨0,rfl⟩
    ·exact cV (ih h)
variable {al:Al}
theorem pU:∀{A:List Al},Ht ms i s A=some al->(∃k:Nat,A[k]?=some al)/\al.slot=s/\pJ ms i al.tag=true:=by
 intro A
 induction A with
 |nil=>intro h; cases h
 |cons e r ih=>
  intro h
  obtain⟨t,s',v,o,c⟩:=e
  unfold Ht at h
  split at h
  ·rename_i hb
   rw[Bool.and_eq_true]at hb
   cases h
   exact⟨⟨0,rfl⟩,Nat.eq_of_beq_eq_true hb.1,hb.2⟩
  ·obtain⟨h1,h2⟩:=ih h
   exact⟨cV h1,h2⟩
theorem mR:∀{A:List Al},FB i A=some al->(∃k:Nat,A[k]?=some al)/\al.tag=some i:=by
 intro A
 induction A with
 |nil=>intro h; cases h
 |cons e r ih=>
  intro h
  obtain⟨t,s',v,o,c⟩:=e
  cases t with
  |none=>obtain⟨h1,h2⟩:=ih h; exact⟨cV h1,h2⟩
  |some j=>
   simp only[FB]at h
   split at h
   ·rename_i hb
    have hb:=Nat.eq_of_beq_eq_true hb
    subst hb
    cases h
    exact⟨⟨0,rfl⟩,rfl⟩
   ·obtain⟨h1,h2⟩:=ih h; exact⟨cV h1,h2⟩
variable {x:Vr}
theorem eB {id:Nat}:∀{V:List Vr},mh id V=some x->(∃k:Nat,V[k]?=some x)/\id=x.id:=by
 intro V
 induction V with
 |nil=>intro h; cases h
 |cons e r ih=>
  intro h
  obtain⟨d,s',b,e,kd,T,n,ag,c0,st⟩:=e
  unfold mh at h
  split at h
  ·rename_i hb
   cases h
   exact⟨⟨0,rfl⟩,(Nat.eq_of_beq_eq_true hb).symm⟩
  ·obtain⟨h1,h2⟩:=ih h
   exact⟨cV h1,h2⟩
theorem vz:∀{V:List Vr},La ms i s V=some x->(∃k:Nat,V[k]?=some x)/\x.slot=s/\bL ms i x=true:=by
 intro V
 induction V with
 |nil=>intro h; cases h
 |cons e r ih=>
  intro h
  obtain⟨d,s',b,e,kd,T,n,ag,c0,st⟩:=e
  unfold La at h
  split at h
  ·rename_i hb
   rw[Bool.and_eq_true]at hb
   cases h
   exact⟨⟨0,rfl⟩,Nat.eq_of_beq_eq_true hb.1,hb.2⟩
  ·obtain⟨h1,h2⟩:=ih h
   exact⟨cV h1,h2⟩
theorem jS:∀{V:List Vr},CB i V=some x->(∃k:Nat,V[k]?=some x)/\x.born=some i:=by
 intro V
 induction V with
 |nil=>intro h; cases h
 |cons e r ih=>
  intro h
  obtain⟨d,s',b,e,kd,T,n,ag,c0,st⟩:=e
  cases b with
  |none=>obtain⟨h1,h2⟩:=ih h; exact⟨cV h1,h2⟩
  |some j=>
   simp only[CB]at h
   split at h
   ·rename_i hb
    have hb:=Nat.eq_of_beq_eq_true hb
    subst hb
    cases h
    exact⟨⟨0,rfl⟩,rfl⟩
   ·obtain⟨h1,h2⟩:=ih h; exact⟨cV h1,h2⟩
theorem AR {q:Rel} {r:List (Nat×Rel)}:∀{st:List (Nat×Rel)},Nh i st=some (q,r)->∃m,st[m]?=some (i,q)/\st.drop (m+1)=r:=by
 intro st
 induction st with
 |nil=>intro h; cases h
 |cons e l ih=>
  intro h
  obtain⟨j,q'⟩:=e
  unfold Nh at h
  split at h
  ·rename_i hb
   have hb:=Nat.eq_of_beq_eq_true hb
   subst hb
   cases h
   exact⟨0,rfl,rfl⟩
  ·obtain⟨m,h1,h2⟩:=ih h
   exact⟨m+1,h1,h2⟩
section
variable {P:Program} {ops:Array Oper} {ms:List Nat} {c:dg} {V:List Vr} {A:List Al} {G:List aV} {i:Nat}{d:Nat} {x y z:Operand} {ty:TypeId} {pos:String} {aO:Array Edge}{t u:TypeId} {m n:Int} {k:IntKind}
theorem IJ (h1:Has ms G i x (bN (.int k m))) (h2:Has ms G i y (bN (.int k n))) (hp:Post G i (pB (decide (m<n)))):OpOk P ops ms c V A G i ⟨some d,.binOp .lss t x y u,ty,pos,aO,none⟩:=gl h1 h2 (λ_=>by cases k<;>rfl) hp
theorem II (h1:Has ms G i x (bN (.int k m))) (h2:Has ms G i y (bN (.int k n))) (hp:Post G i (pB (decide (m<=n)))):OpOk P ops ms c V A G i ⟨some d,.binOp .leq t x y u,ty,pos,aO,none⟩:=gl h1 h2 (λ_=>by cases k<;>rfl) hp
theorem IF (h1:Has ms G i x (bN (.int k m))) (h2:Has ms G i y (bN (.int k n))) (hp:Post G i (pB (decide (m>n)))):OpOk P ops ms c V A G i ⟨some d,.binOp .gtr t x y u,ty,pos,aO,none⟩:=gl h1 h2 (λ_=>by cases k<;>rfl) hp
theorem IE (h1:Has ms G i x (bN (.int k m))) (h2:Has ms G i y (bN (.int k n))) (hp:Post G i (pB (decide (m>=n)))):OpOk P ops ms c V A G i ⟨some d,.binOp .geq t x y u,ty,pos,aO,none⟩:=gl h1 h2 (λ_=>by cases k<;>rfl) hp
theorem ID (h1:Has ms G i x (bN (.int k m))) (h2:Has ms G i y (bN (.int k n))) (hp:Post G i (pB (decide (m=n)))):OpOk P ops ms c V A G i ⟨some d,.binOp .eql t x y u,ty,pos,aO,none⟩:=gl h1 h2 (v:=.bool (m==n)) (λ_=>by cases k<;>rfl) (by rw[show(m==n)=decide (m=n) by by_cases h:m=n<;>simp[h]]; exact hp)
theorem IL (h1:Has ms G i x (bN (.int k m))) (h2:Has ms G i y (bN (.int k n))) (hp:Post G i (pB (decide (m≠n)))):OpOk P ops ms c V A G i ⟨some d,.binOp .neq t x y u,ty,pos,aO,none⟩:=gl h1 h2 (v:=.bool (m != n)) (λ_=>by cases k<;>rfl) (by rw[show(m != n)=decide (m≠n) by by_cases h:m=n<;>simp[h]]; exact hp)
theorem IB (h1:Has ms G i x (pI m)) (h2:Has ms G i y (pI n)) (hp:Post G i (pI (m+n))) (hr:-9223372036854775808<=m+n/\m+n<=9223372036854775807:=by omega):OpOk P ops ms c V A G i ⟨some d,.binOp .add t x y u,ty,pos,aO,none⟩:=
 gl h1 h2 (v:=.int .i64 (IntKind.i64.wrap (m+n))) (λ_=>rfl) (by rw[IntWalk.i64_in _ hr]; exact hp)
theorem IP (h1:Has ms G i x (pI m)) (h2:Has ms G i y (pI n)) (hp:Post G i (pI (m-n))) (hr:-9223372036854775808<=m-n/\m-n<=9223372036854775807:=by omega):OpOk P ops ms c V A G i ⟨some d,.binOp .sub t x y u,ty,pos,aO,none⟩:=
 gl h1 h2 (v:=.int .i64 (IntKind.i64.wrap (m-n))) (λ_=>rfl) (by rw[IntWalk.i64_in _ hr]; exact hp)
theorem IK (h1:Has ms G i x (pI m)) (h2:Has ms G i y (pI n)) (hp:Post G i (pI (m*n))) (hr:-9223372036854775808<=m*n/\m*n<=9223372036854775807:=by omega):OpOk P ops ms c V A G i ⟨some d,.binOp .mul t x y u,ty,pos,aO,none⟩:=
 gl h1 h2 (v:=.int .i64 (IntKind.i64.wrap (m*n))) (λ_=>rfl) (by rw[IntWalk.i64_in _ hr]; exact hp)
variable {T:TypeId} {s:Nat} {v:Vr} {p:Pred}
theorem o_load (hv:La ms i s V=some v) (cC:v.kd=.ptr) (hst:(v.st.all λq=>(ms.getD i 0).testBit q.1||(ms.getD q.1 0).testBit i)=true)
  (hc:cont (λj=>(ms.getD i 0).testBit j) v.c0 v.st=pv p) (hp:Post G i p) (ht:Ty P T v.agg v.n):OpOk P ops ms c V A G i ⟨some d,.load T (.tmp s),ty,pos,aO,none⟩:=by
 obtain⟨⟨k,hk⟩,h1,h2⟩:=vz hv
 exact nH k hk h1 h2 cC hst ht hc hp
variable {agg:Bool} {al:Al} {q:Pred}
theorem rA {n:Nat} (ha:Ht ms i s A=some al) (hv:mh al.var V=some v) (ho:bL ms i v=true) (cC:v.kd=.ptr) (hst:(v.st.all λq=>(ms.getD i 0).testBit q.1||(ms.getD q.1 0).testBit i)=true)
  (hc:cont (λj=>(ms.getD i 0).testBit j) v.c0 v.st=pv p) (ht:Ty P T agg n) (hq:∀w cs,cs.length=v.n->p w (ak v.agg cs)->q w (ak agg ((cs.drop al.off).take n))) (hcd:al.cond) (hp:Post G i q) (hlen:decide (al.off+n<=v.n)=true):OpOk P ops ms c V A G i ⟨some d,.load T (.tmp s),ty,pos,aO,none⟩:=by
 obtain⟨⟨k2,hk2⟩,h1,h2⟩:=pU ha
 obtain⟨⟨k,hk⟩,h3⟩:=eB hv
 exact bF k hk k2 hk2 h1 h3 rfl h2 hcd ho cC hst ht hlen hc hq hp
variable {S f off:Nat}
theorem Ay (ha:FB i A=some al) (hv:mh al.var V=some v) (ho:bL ms i v=true) (cC:v.kd=.ptr) (hs:v.slot=s)
  (hf:∀b w,(Instr.fieldAt S (.pointer (some ⟨b,0,none⟩)) f).run P w=.ok (.pointer (some ⟨b,off,none⟩)) w) (fZ:al.off=off) (hu:(A.filter λq=>q.tag==some i).length=1) (hno:(G.all λe=>e.tag != some i)=true):
  OpOk P ops ms c V A G i ⟨some d,.fieldAddr S (.tmp s) f,ty,pos,aO,none⟩:=by
 obtain⟨⟨k2,hk2⟩,h1⟩:=mR ha
 obtain⟨⟨k,hk⟩,h3⟩:=eB hv
 exact bS k hk ho cC k2 hk2 h1 h3 fZ (.inl ⟨hs.symm,rfl⟩) hu hno hf
variable {nZ:Al}
theorem tL (ha:FB i A=some al) (ha0:Ht ms i s A=some nZ) (hv:mh al.var V=some v) (hv0:nZ.var=al.var) (ho:bL ms i v=true) (cC:v.kd=.ptr)
  (hf:∀b w,(Instr.fieldAt S (.pointer (some ⟨b,nZ.off,none⟩)) f).run P w=.ok (.pointer (some ⟨b,off,none⟩)) w) (fZ:al.off=off) (hcd:nZ.cond) (hu:(A.filter λq=>q.tag==some i).length=1) (hno:(G.all λe=>e.tag != some i)=true):
  OpOk P ops ms c V A G i ⟨some d,.fieldAddr S (.tmp s) f,ty,pos,aO,none⟩:=by
 obtain⟨⟨k2,hk2⟩,h1⟩:=mR ha
 obtain⟨⟨k3,hk3⟩,h4,h5⟩:=pU ha0
 obtain⟨⟨k,hk⟩,h3⟩:=eB hv
 exact bS k hk ho cC k2 hk2 h1 h3 fZ (.inr ⟨k3,nZ,hk3,h4,hv0.trans h3,rfl,h5,hcd⟩) hu hno hf
theorem Az (ha:FB i A=some al) (hv:mh al.var V=some v) (ho:bL ms i v=true) (cC:v.kd=.ptr) (hs:v.slot=s) (Mj:Has ms G i y (pI n))
  (hf:∀b w,(Instr.indexAt S (.pointer (some ⟨b,0,none⟩)) (.int .i64 n)).run P w=.ok (.pointer (some ⟨b,off,none⟩)) w) (fZ:al.off=off) (hu:(A.filter λq=>q.tag==some i).length=1) (hno:(G.all λe=>e.tag != some i)=true):
  OpOk P ops ms c V A G i ⟨some d,.indexAddr S (.tmp s) y,ty,pos,aO,none⟩:=by
 obtain⟨⟨k2,hk2⟩,h1⟩:=mR ha
 obtain⟨⟨k,hk⟩,h3⟩:=eB hv
 exact xz k hk ho cC k2 hk2 h1 h3 fZ (.inl ⟨hs.symm,rfl⟩) hu hno Mj hf
theorem tM (ha:FB i A=some al) (ha0:Ht ms i s A=some nZ) (hv:mh al.var V=some v) (hv0:nZ.var=al.var) (ho:bL ms i v=true) (cC:v.kd=.ptr) (Mj:Has ms G i y (pI n))
  (hf:∀b w,(Instr.indexAt S (.pointer (some ⟨b,nZ.off,none⟩)) (.int .i64 n)).run P w=.ok (.pointer (some ⟨b,off,none⟩)) w) (fZ:al.off=off) (hcd:nZ.cond) (hu:(A.filter λq=>q.tag==some i).length=1) (hno:(G.all λe=>e.tag != some i)=true):
  OpOk P ops ms c V A G i ⟨some d,.indexAddr S (.tmp s) y,ty,pos,aO,none⟩:=by
 obtain⟨⟨k2,hk2⟩,h1⟩:=mR ha
 obtain⟨⟨k3,hk3⟩,h4,h5⟩:=pU ha0
 obtain⟨⟨k,hk⟩,h3⟩:=eB hv
 exact xz k hk ho cC k2 hk2 h1 h3 fZ (.inr ⟨k3,nZ,hk3,h4,hv0.trans h3,rfl,h5,hcd⟩) hu hno Mj hf
variable {r:List (Nat×Rel)}
theorem AA (hv:La ms i s V=some v) (cC:v.kd=.ptr) (h:Has ms G i y p) (hm:Nh i v.st=some (pv p,r)) (hr:(r.all λr=>(ms.getD r.1 0).testBit i)=true) (ht:Ty P T v.agg v.n) (hf:Fits v.n v.agg p)
  (yP:(V.all λy=>y.id==v.id||y.st.all λq=>q.1 != i)=true):OpOk P ops ms c V A G i ⟨none,.store T (.tmp s) y,ty,pos,aO,none⟩:=by
 obtain⟨⟨k,hk⟩,h1,h2⟩:=vz hv
 obtain⟨m,h3,h4⟩:=AR hm
 exact gX k hk h1 h2 cC m h3 (by rw[h4]; exact hr) yP ht h hf
theorem tN {n:Nat} {q0:Pred} (ha:Ht ms i s A=some al) (hv:mh al.var V=some v) (ho:bL ms i v=true) (cC:v.kd=.ptr) (hst:(v.st.all λq=>q.1==i||((ms.getD i 0).testBit q.1||(ms.getD q.1 0).testBit i))=true)
  (hc:cont (λj=>(ms.getD i 0).testBit j) v.c0 v.st=pv q0) (h:Has ms G i y p) (ht:Ty P T agg n) (hq:∀w cs ds,cs.length=v.n->ds.length=n->q0 w (ak v.agg cs)->p w (ak agg ds)->q w (ak v.agg (cs.take al.off++ds++cs.drop (al.off+n))))
  (hm:Nh i v.st=some (pv q,r)) (hr:(r.all λr=>(ms.getD r.1 0).testBit i)=true) (hcd:al.cond) (hf:Fits n agg p) (hlen:decide (al.off+n<=v.n)=true)
  (yP:(V.all λy=>y.id==v.id||y.st.all λq=>q.1 != i)=true):OpOk P ops ms c V A G i ⟨none,.store T (.tmp s) y,ty,pos,aO,none⟩:=by
 obtain⟨⟨k2,hk2⟩,h1,h2⟩:=pU ha
 obtain⟨⟨k,hk⟩,h3⟩:=eB hv
 obtain⟨m,h5,h6⟩:=AR hm
 exact zh k hk k2 hk2 h1 h3 rfl h2 hcd ho cC hst m h5 (by rw[h6]; exact hr) yP ht hlen hc h hf hq
theorem Gx (l:List Zl) (hv:CB i V=some v) (hT:v.T=T) (cC:v.kd=.ptr) (hc:v.c0=pv (pS (l.map Zl.fd))) (Bu:v.agg=true)
  (hz:∀w,(zeroValue T).run P w=.ok (.agg (l.flatMap Zl.cs).toArray) w) (hl:(l.flatMap Zl.cs).length=v.n) (hst:((v.st.all λq=>(ms.getD q.1 0).testBit i)&&V.all λy=>y.dead != some i)=true) (hno:(G.all λe=>e.tag != some i)=true) (fZ:(A.all λp=>p.var != v.id||p.tag.any λj=>(ms.getD j 0).testBit i)=true):
  OpOk P ops ms c V A G i ⟨some d,.alloc T,ty,pos,aO,none⟩:=by
 obtain⟨⟨k,hk⟩,hb⟩:=jS hv
 exact ji k hk hb hst hno fZ hT cC hz rfl hl (zL l) hc λw=>by rw[Bu]; exact zK l w
theorem Ea (l:Zl) {z:Value} (hl:l.cs=[z]) (hv:CB i V=some v) (hT:v.T=T) (cC:v.kd=.ptr) (hc:v.c0=pv l.fd.p) (Bu:v.agg=false) (hn:v.n=1)
  (hz:∀w,(zeroValue T).run P w=.ok z w) (uL:z.cells=[z].toArray) (hp:∀w,l.fd.p w z) (hst:((v.st.all λq=>(ms.getD q.1 0).testBit i)&&V.all λy=>y.dead != some i)=true) (hno:(G.all λe=>e.tag != some i)=true) (fZ:(A.all λp=>p.var != v.id||p.tag.any λj=>(ms.getD j 0).testBit i)=true):
  OpOk P ops ms c V A G i ⟨some d,.alloc T,ty,pos,aO,none⟩:=by
 obtain⟨⟨k,hk⟩,hb⟩:=jS hv
 exact ji k hk hb hst hno fZ hT cC hz uL hn.symm (λu hu=>zL [l] u (by simpa [hl] using hu)) hc λw=>by rw[Bu]; exact hp w
theorem MZ (hv:CB i V=some v) (hT:v.T=T) (cC:v.kd=.ptr) (h:Has ms G i x p) (hc:v.c0=pv p) (hf:Fits v.n v.agg p) (hst:((v.st.all λq=>(ms.getD q.1 0).testBit i)&&V.all λy=>y.dead != some i)=true) (hno:(G.all λe=>e.tag != some i)=true) (fZ:(A.all λp=>p.var != v.id||p.tag.any λj=>(ms.getD j 0).testBit i)=true):
  OpOk P ops ms c V A G i ⟨some d,.box T x,ty,pos,aO,none⟩:=by
 obtain⟨⟨k,hk⟩,hb⟩:=jS hv
 exact rD k hk hb hst hno fZ hT cC h hf hc
variable {j:Nat} {b cb:Bool}
theorem Qt {op:Op} {dst:Option Nat} (hg:jY j G=some (pB cb)) (h:cb=b->OpOk P ops ms c V A G i ⟨dst,op,ty,pos,aO,none⟩) (hA:¬cb=b->sB A i) (hp:¬cb=b->Post G i (bN undef))
  (hj:(G.all λe=>e.tag != some j||((ms.getD i 0).testBit j&&iz ms i e.till))=true) (hb:(V.all λx=>(x.born != some i&&x.dead != some i)&&x.st.all λq=>q.1 != i)=true):OpOk P ops ms c V A G i ⟨dst,op,ty,pos,aO,some (j,b)⟩:=by
 obtain⟨s,f,k,hk⟩:=post hg
 have:=List.all_eq_true.1 hj _ (List.mem_of_getElem? hk)
 exact M7 k hk (by simpa using this) h hb hA hp
theorem M3 {φ:Prop} [Decidable φ] {op:Op} {dst:Option Nat} (hg:jY j G=some (oD φ (pB cb))) (h:φ/\cb=b->OpOk P ops ms c V A G i ⟨dst,op,ty,pos,aO,none⟩) (hA:¬(φ/\cb=b)->sB A i) (hp:¬(φ/\cb=b)->Post G i (bN undef))
  (hj:(G.all λe=>e.tag != some j||((ms.getD i 0).testBit j&&iz ms i e.till))=true) (hb:(V.all λx=>(x.born != some i&&x.dead != some i)&&x.st.all λq=>q.1 != i)=true):OpOk P ops ms c V A G i ⟨dst,op,ty,pos,aO,some (j,b)⟩:=by
 obtain⟨s,f,k,hk⟩:=post hg
 have:=List.all_eq_true.1 hj _ (List.mem_of_getElem? hk)
 exact Kl k hk (by simpa using this) h hb hA hp
end
end Wx
