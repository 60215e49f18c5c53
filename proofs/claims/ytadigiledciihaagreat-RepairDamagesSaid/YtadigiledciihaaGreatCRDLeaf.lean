import Derived.Test.YtadigiledciihaaGreatJRD21
namespace Wx
open Go Go.RowKit
def oT:List Fd->Nat->Option (List Fd)
 |[],n=>match Nat.beq n 0 with
  |true=>some []
  |false=>none
 |⟨ag,m,p⟩::fs,n=>match Nat.beq n 0 with
  |true=>some []
  |false=>match Nat.ble m n with
   |true=>match oT fs (Nat.sub n m)with
    |some l=>some (⟨ag,m,p⟩::l)
    |none=>none
   |false=>none
def vF:List Fd->Nat->Nat->Option (List Fd)
 |[],_,n=>oT [] n
 |⟨ag,m,p⟩::fs,off,n=>match Nat.beq off 0 with
  |true=>oT (⟨ag,m,p⟩::fs) n
  |false=>match Nat.ble m off with
   |true=>vF fs (Nat.sub off m) n
   |false=>none
def EN:Bool->Option (List Fd)->Option Pred
 |true,some [⟨true,_,p⟩]=>some p
 |true,some l=>some (pS l)
 |false,some [⟨false,_,p⟩]=>some p
 |_,_=>none
def tn:List Fd->Nat->Option (List Fd)
 |[],n=>match Nat.beq n 0 with
  |true=>some []
  |false=>none
 |⟨ag,m,p⟩::fs,n=>match Nat.beq n 0 with
  |true=>some (⟨ag,m,p⟩::fs)
  |false=>match Nat.ble m n with
   |true=>tn fs (Nat.sub n m)
   |false=>none
def wm:List Fd->Option (List Fd)->Option (List Fd)
 |[],r=>r
 |g::gs,r=>match wm gs r with
  |some l=>some (g::l)
  |none=>none
def tU (gs:List Fd) (n:Nat):List Fd->Nat->Option (List Fd)
 |[],_=>match Nat.beq n 0 with
  |true=>wm gs (some [])
  |false=>none
 |⟨ag,m,p⟩::fs,off=>match Nat.beq off 0 with
  |true=>wm gs (tn (⟨ag,m,p⟩::fs) n)
  |false=>match Nat.ble m off with
   |true=>match tU gs n fs (Nat.sub off m)with
    |some l=>some (⟨ag,m,p⟩::l)
    |none=>none
   |false=>none
theorem FD:∀{fs:List Fd} {n:Nat} {l:List Fd} {w:World} {cs:List Value},oT fs n=some l->aA fs w cs->aA l w (cs.take n)/\n<=cs.length:=by
 intro fs
 induction fs with
 |nil=>
  intro n l w cs h hc
  unfold oT at h
  split at h
  ·rename_i hb; have hb:=Nat.eq_of_beq_eq_true hb; subst hb; cases h; exact⟨rfl,Nat.zero_le _⟩
  ·cases h
 |cons f fs ih=>
  intro n l w cs h hc
  obtain⟨ag,m,p⟩:=f
  unfold oT at h
  split at h
  ·rename_i hb; have hb:=Nat.eq_of_beq_eq_true hb; subst hb; cases h; exact⟨rfl,Nat.zero_le _⟩
  ·split at h
   ·rename_i hm
    have hm:=Nat.le_of_ble_eq_true hm
    split at h
    ·rename_i l' hl
     cases h
     obtain⟨h1,h2,h3⟩:=hc
     obtain⟨k1,k2⟩:=ih hl h3
     simp only[List.length_drop]at k2 h1
     have k2:n-m<=cs.length-m:=k2
     refine⟨⟨?_,?_,?_⟩,by omega⟩
     ·show m<=(cs.take n).length; rw[List.length_take]; omega
     ·show p w (ak ag ((cs.take n).take m)); rw[List.take_take,Nat.min_eq_left hm]; exact h2
     ·show aA l' w ((cs.take n).drop m); rw[List.drop_take]; exact k1
    ·cases h
   ·cases h
theorem BC:∀{fs:List Fd} {off n:Nat} {l:List Fd} {w:World} {cs:List Value},vF fs off n=some l->aA fs w cs->aA l w ((cs.drop off).take n)/\n+off<=cs.length+(if n=0 then off else 0):=by
 intro fs
 induction fs with
 |nil=>
  intro off n l w cs h hc
  have hn:n=0:=by
   unfold vF oT at h
   split at h
   ·rename_i hb; exact Nat.eq_of_beq_eq_true hb
   ·cases h
  subst hn
  have:cs=[]:=hc
  subst this
  have h:oT [] 0=some l:=h
  cases h
  simp[aA]
 |cons f fs ih=>
  intro off n l w cs h hc
  obtain⟨ag,m,p⟩:=f
  unfold vF at h
  split at h
  ·rename_i hb; have hb:=Nat.eq_of_beq_eq_true hb; subst hb
   obtain⟨k1,k2⟩:=FD h hc
   exact⟨by rw[List.drop_zero]; exact k1,by omega⟩
  ·split at h
   ·rename_i hm
    have hm:=Nat.le_of_ble_eq_true hm
    obtain⟨h1,h2,h3⟩:=hc
    obtain⟨k1,k2⟩:=ih h h3
    rw[List.drop_drop]at k1
    have e:m+Nat.sub off m=off:=by show m+(off-m)=off; omega
    rw[show(({ agg:=ag,n:=m,p:=p }:Fd).n+Nat.sub off m)=off from e]at k1
    refine⟨k1,?_⟩
    rw[List.length_drop]at k2
    have h1:m<=cs.length:=h1
    have k2:n+(off-m)<=cs.length-m+(if n=0 then off-m else 0):=k2
    split at k2<;>rename_i hn
    ·rw[if_pos hn]; omega
    ·rw[if_neg hn]; omega
   ·cases h
variable {ag:Bool} {q:Pred}
theorem Bi {l:List Fd} {w:World} {ds:List Value} (h:EN ag (some l)=some q) (hc:aA l w ds):q w (ak ag ds):=by
 unfold EN at h
 split at h
 ·rename_i _ e
  cases h
  cases e
  obtain⟨h1,h2,h3⟩:=hc
  have h3:ds.drop _=[]:=h3
  have:ds.take _=ds:=List.take_of_length_le (List.drop_eq_nil_iff.1 h3)
  rw[this]at h2
  exact h2
 ·rename_i _ e
  cases h
  cases e
  exact⟨ds,rfl,hc⟩
 ·rename_i _ e
  cases h
  cases e
  obtain⟨h1,h2,h3⟩:=hc
  have h3:ds.drop _=[]:=h3
  have:ds.take _=ds:=List.take_of_length_le (List.drop_eq_nil_iff.1 h3)
  rw[this]at h2
  exact h2
 ·cases h
variable {fs:List Fd} {off n N:Nat}
theorem xp (h:EN ag (vF fs off n)=some q):∀w cs,cs.length=N->pS fs w (ak true cs)->q w (ak ag ((cs.drop off).take n)):=by
 rintro w cs _ ⟨ds,e,hd⟩
 have:=bW (show ak true cs=ak true ds from e)
 subst this
 cases hs:vF fs off n with
 |none=>rw[hs]at h; cases ag<;>cases h
 |some l=>rw[hs]at h; exact Bi h (BC hs hd).1
theorem DT:∀{fs:List Fd} {n:Nat} {l:List Fd} {w:World} {cs:List Value},tn fs n=some l->aA fs w cs->aA l w (cs.drop n):=by
 intro fs
 induction fs with
 |nil=>
  intro n l w cs h hc
  unfold tn at h
  split at h
  ·cases h; have:cs=[]:=hc; subst this; simp[aA]
  ·cases h
 |cons f fs ih=>
  intro n l w cs h hc
  obtain⟨ag,m,p⟩:=f
  unfold tn at h
  split at h
  ·rename_i hb; have hb:=Nat.eq_of_beq_eq_true hb; subst hb; cases h; exact hc
  ·split at h
   ·rename_i hm
    have hm:=Nat.le_of_ble_eq_true hm
    have:=ih h hc.2.2
    rw[List.drop_drop]at this
    rwa [show(({ agg:=ag,n:=m,p:=p }:Fd).n+Nat.sub n m)=n from(show m+(n-m)=n by omega)]at this
   ·cases h
theorem uq:∀{gs r l:List Fd} {w:World} {ds es:List Value},wm gs (some r)=some l->aA gs w ds->aA r w es->aA l w (ds++es):=by
 intro gs
 induction gs with
 |nil=>intro r l w ds es h hd he; cases h; have:ds=[]:=hd; subst this; exact he
 |cons g gs ih=>
  intro r l w ds es h hd he
  unfold wm at h
  split at h
  ·rename_i l' hl
   cases h
   obtain⟨h1,h2,h3⟩:=hd
   refine⟨by rw[List.length_append]; omega,?_,?_⟩
   ·rw[List.take_append_of_le_length h1]; exact h2
   ·rw[List.drop_append_of_le_length h1]; exact ih hl h3 he
  ·cases h
theorem BS:∀{gs:List Fd},wm gs none=none:=by
 intro gs
 induction gs with
 |nil=>rfl
 |cons g gs ih=>unfold wm; rw[ih]
theorem xV:∀{fs gs hs:List Fd} {off n:Nat} {w:World} {cs ds:List Value},tU gs n fs off=some hs->aA fs w cs->aA gs w ds->ds.length=n->aA hs w (cs.take off++ds++cs.drop (off+n)):=by
 intro fs
 induction fs with
 |nil=>
  intro gs hs off n w cs ds h hc hd hl
  unfold tU at h
  split at h
  ·rename_i hb; have hb:=Nat.eq_of_beq_eq_true hb; subst hb
   have:cs=[]:=hc
   subst this
   have:=uq h hd (show aA [] w []from rfl)
   simpa using this
  ·cases h
 |cons f fs ih=>
  intro gs hs off n w cs ds h hc hd hl
  obtain⟨ag,m,p⟩:=f
  unfold tU at h
  split at h
  ·rename_i hb; have hb:=Nat.eq_of_beq_eq_true hb; subst hb
   cases hr:tn (⟨ag,m,p⟩::fs) n with
   |none=>rw[hr,BS]at h; cases h
   |some r=>
    rw[hr]at h
    have:=uq h hd (DT hr hc)
    simpa using this
  ·split at h
   ·rename_i hm
    have hm:=Nat.le_of_ble_eq_true hm
    split at h
    ·rename_i l hl'
     cases h
     obtain⟨h1,h2,h3⟩:=hc
     have h1:m<=cs.length:=h1
     have h2:p w (ak ag (cs.take m)):=h2
     have:=ih hl' h3 hd hl
     have e:m+Nat.sub off m=off:=by show m+(off-m)=off; omega
     have hlen:m<=(cs.take off).length:=by rw[List.length_take]; omega
     have e2:(cs.take off++ds++cs.drop (off+n))=cs.take off++(ds++cs.drop (off+n)):=by rw[List.append_assoc]
     refine⟨?_,?_,?_⟩
     ·show m<=_; rw[e2,List.length_append]; omega
     ·show p w (ak ag (List.take m _)); rw[e2,List.take_append_of_le_length hlen,List.take_take,Nat.min_eq_left hm]; exact h2
     ·show aA l w (List.drop m _)
      rw[e2,List.drop_append_of_le_length hlen,List.drop_take]
      have this:aA l w ((cs.drop m).take (off-m)++ds++(cs.drop m).drop ((off-m)+n)):=this
      rw[List.drop_drop,show m+(off-m+n)=off+n by omega,List.append_assoc]at this
      exact this
    ·cases h
   ·cases h
variable {hs:List Fd}
theorem C8 (h:tU [⟨ag,n,q⟩] n fs off=some hs):
  ∀w cs ds,cs.length=N->ds.length=n->pS fs w (ak true cs)->q w (ak ag ds)->pS hs w (ak true (cs.take off++ds++cs.drop (off+n))):=by
 rintro w cs ds _ hl ⟨es,e,hc⟩ hq
 have:=bW (show ak true cs=ak true es from e)
 subst this
 exact⟨_,rfl,xV h hc (show aA [⟨ag,n,q⟩] w ds from⟨by show n<=_; omega,by show q w (ak ag (ds.take n)); rw[List.take_of_length_le (by omega)]; exact hq,List.drop_eq_nil_iff.2 (by show ds.length<=n; omega)⟩) hl⟩
theorem C9 {gs:List Fd} (h:tU gs n fs off=some hs):
  ∀w cs ds,cs.length=N->ds.length=n->pS fs w (ak true cs)->pS gs w (ak true ds)->pS hs w (ak true (cs.take off++ds++cs.drop (off+n))):=by
 rintro w cs ds _ hl ⟨es,e,hc⟩ ⟨es',e',hd⟩
 have:=bW (show ak true cs=ak true es from e)
 subst this
 have:=bW (show ak true ds=ak true es' from e')
 subst this
 exact⟨_,rfl,xV h hc hd hl⟩
def pQ (F:Rat->Pred) (j:Nat) (x:Rat):Pred:=λw v=>dB j x/\F x w v
abbrev pR (j:Nat) (x:Rat):Pred:=pQ bz j x
abbrev pN (j:Nat) (x:Rat):Pred:=pQ dz j x
variable {F:Rat->Pred} {j:Nat} {x:Rat}
theorem tP (h:dB j x):∀w v,F x w v->pQ F j x w v:=λ_ _ k=>⟨h,k⟩
variable {k:Nat}
theorem xL (h:j<=k):∀w v,pQ F j x w v->pQ F k x w v:=λ_ _ q=>⟨q.1.mono h,q.2⟩
theorem Ny {y:Rat} (e:x=y) (h:j<=k):∀w v,pQ F j x w v->pQ F k y w v:=e▸xL h
theorem mz:au (pR j x):=λM w v hM h=>λw' he=>⟨h.1,de x M w v hM h.2 w' he⟩
theorem my:au (pN j x):=λM w v hM h=>λw' he=>⟨h.1,dg x M w v hM h.2 w' he⟩
theorem mQ:Fits 3 true (pR j x):=λw v h=>kp x w v h.2
theorem uz:Fits 3 true (pN j x):=λw v h=>kq x w v h.2
inductive Zl
 |r|f|i|b|n|s
def Zl.fd:Zl->Fd
 |.r=>⟨true,3,pR 1 0⟩
 |.f=>⟨true,3,fk⟩
 |.i=>⟨false,1,pI 0⟩
 |.b=>⟨false,1,pB false⟩
 |.n=>⟨false,1,bK (.slice none 0 0)⟩
 |.s=>⟨false,1,bK (.string ⟨#[]⟩)⟩
def Zl.cs:Zl->List Value
 |.r|.f=>[.bool false,.slice none 0 0,.slice none 0 0]
 |.i=>[.int .i64 0]
 |.b=>[.bool false]
 |.n=>[.slice none 0 0]
 |.s=>[.string ⟨#[]⟩]
theorem SX:dB 1 (0:Rat):=⟨by show(0:Rat).num.natAbs<2^1; decide,by show(0:Rat).den<2^1; decide⟩
theorem Jn (w:World):∀l:List Zl,aA (l.map Zl.fd) w (l.flatMap Zl.cs):=by
 intro l
 induction l with
 |nil=>rfl
 |cons z l ih=>
  have e:(Zl.fd z).n=(Zl.cs z).length:=by cases z<;>rfl
  have hp:(Zl.fd z).p w (ak (Zl.fd z).agg (Zl.cs z)):=by
   cases z
   ·exact⟨SX,mm w⟩
   ·trivial
   all_goals rfl
  show(Zl.fd z).n<=_/\_/\_
  rw[List.flatMap_cons,List.length_append,List.take_append_of_le_length (by omega),List.take_of_length_le (by omega),List.drop_append_of_le_length (by omega),List.drop_of_length_le (by omega)]
  exact⟨by omega,hp,ih⟩
theorem Af:∀l:List Zl,∀u∈l.flatMap Zl.cs,fW u:=by
 intro l u hu
 obtain⟨z,_,hz⟩:=List.mem_flatMap.1 hu
 cases z<;>simp[Zl.cs]at hz<;>(try rcases hz with rfl|rfl)<;>(try subst hz)<;>intro n<;>simp
theorem Ae (l:List Zl) (w:World):pS (l.map Zl.fd) w (ak true (l.flatMap Zl.cs)):=⟨_,rfl,Jn w l⟩
def wN (F:Rat->Pred) (j:Nat) (x:Rat):Fd:=⟨true,3,pQ F j x⟩
def pV (F:Rat->Pred) (j:Nat) (l:List Rat):Pred:=pS (l.map (wN F j))
section
variable {F:Rat->Pred} {j k:Nat} {l:List Rat}
theorem Jh (h:j<=k):∀{l:List Rat} {w:World} {cs:List Value},aA (l.map (wN F j)) w cs->aA (l.map (wN F k)) w cs
 |[],_,_,h=>h
 |_::_,_,_,⟨h1,h2,h3⟩=>⟨h1,xL h _ _ h2,Jh h h3⟩
theorem Br (h:j<=k):∀w v,pV F j l w v->pV F k l w v:=λ_ _ ⟨cs,e,hc⟩=>⟨cs,e,Jh h hc⟩
theorem NA {l':List Rat} (e:l=l') (h:j<=k):∀w v,pV F j l w v->pV F k l' w v:=e▸Br h
theorem EZ:∀{l:List Rat} {w:World} {cs:List Value},aA (l.map (wN F j)) w cs->cs.length=3*l.length
 |[],_,_,h=>by rw[show _=[]from h]; rfl
 |_::l,_,cs,⟨h1,_,h3⟩=>by
  have:=EZ h3
  have h1:3<=cs.length:=h1
  have:cs.length-3=3*l.length:=by rw[<-List.length_drop]; exact this
  rw[List.length_cons]; omega
theorem Bo:∀{l:List Rat} {w:World} {cs:List Value} (q:Nat),aA (l.map (wN F j)) w cs->aA ((l.drop q).map (wN F j)) w (cs.drop (q*3))
 |l,_,_,0,h=>by rw[Nat.zero_mul,List.drop_zero,List.drop_zero]; exact h
 |[],_,_,_+1,h=>by rw[show _=[]from h]; rfl
 |_::_,_,_,q+1,⟨_,_,h3⟩=>by
  have:=Bo q h3
  rw[List.drop_drop,show(wN F j _).n+q*3=(q+1)*3 from(show 3+q*3=(q+1)*3 by omega)]at this
  exact this
theorem Bp:∀{l:List Rat} {w:World} {cs:List Value} (q:Nat),aA (l.map (wN F j)) w cs->aA ((l.take q).map (wN F j)) w (cs.take (q*3))
 |l,_,_,0,_=>by rw[Nat.zero_mul,List.take_zero,List.take_zero]; rfl
 |[],_,_,_+1,h=>by rw[show _=[]from h]; rfl
 |_::_,w,cs,q+1,⟨h1,h2,h3⟩=>by
  have h1:3<=cs.length:=h1
  refine⟨?_,?_,?_⟩
  ·show 3<=(cs.take ((q+1)*3)).length; rw[List.length_take]; omega
  ·show pQ F j _ w (ak true ((cs.take ((q+1)*3)).take 3)); rw[List.take_take,Nat.min_eq_left (by omega)]; exact h2
  ·show aA _ w ((cs.take ((q+1)*3)).drop 3); rw[List.drop_take,show(q+1)*3-3=q*3 by omega]; exact Bp q h3
theorem KQ {x:Rat} {w:World} {ds:List Value} (hl:ds.length=3):aA ([x].map (wN F j)) w ds↔pQ F j x w (ak true ds):=by
 refine⟨λ⟨_,h2,_⟩=>?_,λh=>⟨by show 3<=_; omega,?_,List.drop_eq_nil_iff.2 (by show _<=3; omega)⟩⟩
 ·have h2:pQ F j x w (ak true (ds.take 3)):=h2
  rwa [List.take_of_length_le (by omega)]at h2
 ·show pQ F j x w (ak true (ds.take 3))
  rwa [List.take_of_length_le (by omega)]
theorem qK {l:List Rat} {q:Nat} (h:q<l.length):(l.drop q).take 1=[l.getD q 0]:=by
 rw[List.drop_eq_getElem_cons h,List.take_succ_cons,List.take_zero,List.getD_eq_getElem?_getD,List.getElem?_eq_getElem h]; rfl
variable {off:Nat}
theorem KT (q m:Nat) (ho:off=q*3) {N:Nat}:∀w cs,cs.length=N->pV F j l w (ak true cs)->pV F j ((l.drop q).take m) w (ak true ((cs.drop off).take (m*3))):=by
 rintro w cs _ ⟨ds,e,h⟩
 have:=bW (show ak true cs=ak true ds from e)
 subst this ho
 exact⟨_,rfl,Bp m (Bo q h)⟩
theorem KS (q:Nat) (ho:off=q*3) (hq:q<l.length) {N:Nat}:∀w cs,cs.length=N->pV F j l w (ak true cs)->pQ F j (l.getD q 0) w (ak true ((cs.drop off).take 3)):=by
 intro w cs hN h
 obtain⟨ds,e,h⟩:=KT q 1 ho w cs hN h
 rw[qK hq]at h
 have e:=bW (show ak true _=ak true ds from e)
 have hl:=EZ h
 rw[Nat.one_mul]at e
 rw[e]
 exact(KQ hl).1 h
theorem rh (hF:∀x,au (pQ F j x)):∀{l:List Rat} {M:Nat->Nat->Prop} {w:World} {cs:List Value},dD M w->aA (l.map (wN F j)) w cs->aN M (λw=>aA (l.map (wN F j)) w cs) w
 |[],_,_,_,_,h=>λ_ _=>h
 |x::_,M,w,_,hM,⟨h1,h2,h3⟩=>λw' he=>⟨h1,hF x M w _ hM h2 w' he,rh hF hM h3 w' he⟩
theorem ri (hF:∀x,au (pQ F j x)):au (pV F j l):=by
 rintro M w v hM ⟨cs,rfl,h⟩ w' he
 exact⟨cs,rfl,rh hF hM h w' he⟩
theorem ql (hF:∀x,Fits 3 true (pQ F j x)):∀{l:List Rat},pC (l.map (wN F j))
 |[]=>trivial
 |x::_=>⟨hF x,ql hF⟩
theorem By:∀{l:List Rat},jL (l.map (wN F j))=l.length*3
 |[]=>rfl
 |_::l=>by show 3+jL (l.map (wN F j))=(l.length+1)*3; rw[By]; omega
theorem pP (hF:∀x,Fits 3 true (pQ F j x)) {n:Nat} (hn:n=l.length*3):Fits n true (pV F j l):=nU (ql hF) (by rw[hn]; exact By)
inductive nL (F:Rat->Pred) (j:Nat):List Fd->List Rat->Prop
 |z:nL F j [] []
 |c {i:Nat} {x:Rat} {fs:List Fd} {l:List Rat} (h:i<=j):nL F j fs l->nL F j (⟨true,3,pQ F i x⟩::fs) (x::l)
variable {fs:List Fd}
theorem nL.ok (h:nL F j fs l):∀{w:World} {cs:List Value},aA fs w cs->aA (l.map (wN F j)) w cs:=by
 induction h with
 |z=>exactλh=>h
 |c hi _ ih=>exact λ⟨h1,h2,h3⟩=>⟨h1,xL hi _ _ h2,ih h3⟩
theorem nL.pV (h:nL F j fs l):∀w v,pS fs w v->Wx.pV F j l w v:=λ_ _ ⟨cs,e,hc⟩=>⟨cs,e,h.ok hc⟩
end
end Wx
