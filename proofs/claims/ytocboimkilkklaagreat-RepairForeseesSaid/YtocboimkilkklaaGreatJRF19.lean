import Derived.Test.YtocboimkilkklaaGreatJRF18
namespace Wx
open Go Go.RowKit
def sn:List Fd->Nat->Option (List Fd)
 |[],n=>match Nat.beq n 0 with
  |true=>some []
  |false=>none
 |⟨ag,m,p⟩::fs,n=>match Nat.beq n 0 with
  |true=>some []
  |false=>match Nat.ble m n with
   |true=>match sn fs (Nat.sub n m)with
    |some l=>some (⟨ag,m,p⟩::l)
    |none=>none
   |false=>none
def wD:List Fd->Nat->Nat->Option (List Fd)
 |[],_,n=>sn [] n
 |⟨ag,m,p⟩::fs,off,n=>match Nat.beq off 0 with
  |true=>sn (⟨ag,m,p⟩::fs) n
  |false=>match Nat.ble m off with
   |true=>wD fs (Nat.sub off m) n
   |false=>none
def Gc:Bool->Option (List Fd)->Option Pred
 |true,some [⟨true,_,p⟩]=>some p
 |true,some l=>some (pS l)
 |false,some [⟨false,_,p⟩]=>some p
 |_,_=>none
def wW:List Fd->Nat->Option (List Fd)
 |[],n=>match Nat.beq n 0 with
  |true=>some []
  |false=>none
 |⟨ag,m,p⟩::fs,n=>match Nat.beq n 0 with
  |true=>some (⟨ag,m,p⟩::fs)
  |false=>match Nat.ble m n with
   |true=>wW fs (Nat.sub n m)
   |false=>none
def zR:List Fd->Option (List Fd)->Option (List Fd)
 |[],r=>r
 |g::gs,r=>match zR gs r with
  |some l=>some (g::l)
  |none=>none
def xP (gs:List Fd) (n:Nat):List Fd->Nat->Option (List Fd)
 |[],_=>match Nat.beq n 0 with
  |true=>zR gs (some [])
  |false=>none
 |⟨ag,m,p⟩::fs,off=>match Nat.beq off 0 with
  |true=>zR gs (wW (⟨ag,m,p⟩::fs) n)
  |false=>match Nat.ble m off with
   |true=>match xP gs n fs (Nat.sub off m)with
    |some l=>some (⟨ag,m,p⟩::l)
    |none=>none
   |false=>none
theorem Ka:∀{fs:List Fd} {n:Nat} {l:List Fd} {w:World} {cs:List Value},sn fs n=some l->aJ fs w cs->aJ l w (cs.take n)/\n<=cs.length:=by
 intro fs
 induction fs with
 |nil=>
  intro n l w cs h hc
  unfold sn at h
  split at h
  ·rename_i hb; have hb:=Nat.eq_of_beq_eq_true hb; subst hb; cases h; exact⟨rfl,Nat.zero_le _⟩
  ·cases h
 |cons f fs ih=>
  intro n l w cs h hc
  obtain⟨ag,m,p⟩:=f
  unfold sn at h
  split at h
  ·rename_i hb; have hb:=Nat.eq_of_beq_eq_true hb; subst hb; cases h; exact⟨rfl,Nat.zero_le _⟩
  ·split at h
   ·rename_i hm
    have hm:=Nat.le_of_ble_eq_true hm
    split at h
    ·rename_i l' hl
     cases h
     obtain⟨h1,h2,h3⟩:=hc
     obtain⟨k1,k2⟩:=ih hl h3
     simp only[List.length_drop]at k2 h1
     have k2:n-m<=cs.length-m:=k2
     refine⟨⟨?_,?_,?_⟩,by omega⟩
     ·show m<=(cs.take n).length; rw[List.length_take]; omega
     ·show p w (aA ag ((cs.take n).take m)); rw[List.take_take,Nat.min_eq_left hm]; exact h2
     ·show aJ l' w ((cs.take n).drop m); rw[List.drop_take]; exact k1
    ·cases h
   ·cases h
theorem EE:∀{fs:List Fd} {off n:Nat} {l:List Fd} {w:World} {cs:List Value},wD fs off n=some l->aJ fs w cs->aJ l w ((cs.drop off).take n)/\n+off<=cs.length+(if n=0 then off else 0):=by
 intro fs
 induction fs with
 |nil=>
  intro off n l w cs h hc
  have hn:n=0:=by
   unfold wD sn at h
   split at h
   ·rename_i hb; exact Nat.eq_of_beq_eq_true hb
   ·cases h
  subst hn
  have:cs=[]:=hc
  subst this
  have h:sn [] 0=some l:=h
  cases h
  simp[aJ]
 |cons f fs ih=>
  intro off n l w cs h hc
  obtain⟨ag,m,p⟩:=f
  unfold wD at h
  split at h
  ·rename_i hb; have hb:=Nat.eq_of_beq_eq_true hb; subst hb
   obtain⟨k1,k2⟩:=Ka h hc
   exact⟨by rw[List.drop_zero]; exact k1,by omega⟩
  ·split at h
   ·rename_i hm
    have hm:=Nat.le_of_ble_eq_true hm
    obtain⟨h1,h2,h3⟩:=hc
    obtain⟨k1,k2⟩:=ih h h3
    rw[List.drop_drop]at k1
    have e:m+Nat.sub off m=off:=by show m+(off-m)=off; omega
    rw[show(({ agg:=ag,n:=m,p:=p }:Fd).n+Nat.sub off m)=off from e]at k1
    refine⟨k1,?_⟩
    rw[List.length_drop]at k2
    have h1:m<=cs.length:=h1
    have k2:n+(off-m)<=cs.length-m+(if n=0 then off-m else 0):=k2
    split at k2<;>rename_i hn
    ·rw[if_pos hn]; omega
    ·rw[if_neg hn]; omega
   ·cases h
variable {ag:Bool} {q:Pred}
theorem Eo {l:List Fd} {w:World} {ds:List Value} (h:Gc ag (some l)=some q) (hc:aJ l w ds):q w (aA ag ds):=by
 unfold Gc at h
 split at h
 ·rename_i _ e
  cases h
  cases e
  obtain⟨h1,h2,h3⟩:=hc
  have h3:ds.drop _=[]:=h3
  have:ds.take _=ds:=List.take_of_length_le (List.drop_eq_nil_iff.1 h3)
  rw[this]at h2
  exact h2
 ·rename_i _ e
  cases h
  cases e
  exact⟨ds,rfl,hc⟩
 ·rename_i _ e
  cases h
  cases e
  obtain⟨h1,h2,h3⟩:=hc
  have h3:ds.drop _=[]:=h3
  have:ds.take _=ds:=List.take_of_length_le (List.drop_eq_nil_iff.1 h3)
  rw[this]at h2
  exact h2
 ·cases h
variable {fs:List Fd} {off n N:Nat}
theorem qj (h:Gc ag (wD fs off n)=some q):∀w cs,cs.length=N->pS fs w (aA true cs)->q w (aA ag ((cs.drop off).take n)):=by
 rintro w cs _ ⟨ds,e,hd⟩
 have:=dF (show aA true cs=aA true ds from e)
 subst this
 cases hs:wD fs off n with
 |none=>rw[hs]at h; cases ag<;>cases h
 |some l=>rw[hs]at h; exact Eo h (EE hs hd).1
theorem Ic:∀{fs:List Fd} {n:Nat} {l:List Fd} {w:World} {cs:List Value},wW fs n=some l->aJ fs w cs->aJ l w (cs.drop n):=by
 intro fs
 induction fs with
 |nil=>
  intro n l w cs h hc
  unfold wW at h
  split at h
  ·cases h; have:cs=[]:=hc; subst this; simp[aJ]
  ·cases h
 |cons f fs ih=>
  intro n l w cs h hc
  obtain⟨ag,m,p⟩:=f
  unfold wW at h
  split at h
  ·rename_i hb; have hb:=Nat.eq_of_beq_eq_true hb; subst hb; cases h; exact hc
  ·split at h
   ·rename_i hm
    have hm:=Nat.le_of_ble_eq_true hm
    have:=ih h hc.2.2
    rw[List.drop_drop]at this
    rwa [show(({ agg:=ag,n:=m,p:=p }:Fd).n+Nat.sub n m)=n from(show m+(n-m)=n by omega)]at this
   ·cases h
theorem yl:∀{gs r l:List Fd} {w:World} {ds es:List Value},zR gs (some r)=some l->aJ gs w ds->aJ r w es->aJ l w (ds++es):=by
 intro gs
 induction gs with
 |nil=>intro r l w ds es h hd he; cases h; have:ds=[]:=hd; subst this; exact he
 |cons g gs ih=>
  intro r l w ds es h hd he
  unfold zR at h
  split at h
  ·rename_i l' hl
   cases h
   obtain⟨h1,h2,h3⟩:=hd
   refine⟨by rw[List.length_append]; omega,?_,?_⟩
   ·rw[List.take_append_of_le_length h1]; exact h2
   ·rw[List.drop_append_of_le_length h1]; exact ih hl h3 he
  ·cases h
theorem E4:∀{gs:List Fd},zR gs none=none:=by
 intro gs
 induction gs with
 |nil=>rfl
 |cons g gs ih=>unfold zR; rw[ih]
theorem Br:∀{fs gs hs:List Fd} {off n:Nat} {w:World} {cs ds:List Value},xP gs n fs off=some hs->aJ fs w cs->aJ gs w ds->ds.length=n->aJ hs w (cs.take off++ds++cs.drop (off+n)):=by
 intro fs
 induction fs with
 |nil=>
  intro gs hs off n w cs ds h hc hd hl
  unfold xP at h
  split at h
  ·rename_i hb; have hb:=Nat.eq_of_beq_eq_true hb; subst hb
   have:cs=[]:=hc
   subst this
   have:=yl h hd (show aJ [] w []from rfl)
   simpa using this
  ·cases h
 |cons f fs ih=>
  intro gs hs off n w cs ds h hc hd hl
  obtain⟨ag,m,p⟩:=f
  unfold xP at h
  split at h
  ·rename_i hb; have hb:=Nat.eq_of_beq_eq_true hb; subst hb
   cases hr:wW (⟨ag,m,p⟩::fs) n with
   |none=>rw[hr,E4]at h; cases h
   |some r=>
    rw[hr]at h
    have:=yl h hd (Ic hr hc)
    simpa using this
  ·split at h
   ·rename_i hm
    have hm:=Nat.le_of_ble_eq_true hm
    split at h
    ·rename_i l hl'
     cases h
     obtain⟨h1,h2,h3⟩:=hc
     have h1:m<=cs.length:=h1
     have h2:p w (aA ag (cs.take m)):=h2
     have:=ih hl' h3 hd hl
     have e:m+Nat.sub off m=off:=by show m+(off-m)=off; omega
     have hlen:m<=(cs.take off).length:=by rw[List.length_take]; omega
     have e2:(cs.take off++ds++cs.drop (off+n))=cs.take off++(ds++cs.drop (off+n)):=by rw[List.append_assoc]
     refine⟨?_,?_,?_⟩
     ·show m<=_; rw[e2,List.length_append]; omega
     ·show p w (aA ag (List.take m _)); rw[e2,List.take_append_of_le_length hlen,List.take_take,Nat.min_eq_left hm]; exact h2
     ·show aJ l w (List.drop m _)
      rw[e2,List.drop_append_of_le_length hlen,List.drop_take]
      have this:aJ l w ((cs.drop m).take (off-m)++ds++(cs.drop m).drop ((off-m)+n)):=this
      rw[List.drop_drop,show m+(off-m+n)=off+n by omega,List.append_assoc]at this
      exact this
    ·cases h
   ·cases h
variable {hs:List Fd}
theorem Gy (h:xP [⟨ag,n,q⟩] n fs off=some hs):
  ∀w cs ds,cs.length=N->ds.length=n->pS fs w (aA true cs)->q w (aA ag ds)->pS hs w (aA true (cs.take off++ds++cs.drop (off+n))):=by
 rintro w cs ds _ hl ⟨es,e,hc⟩ hq
 have:=dF (show aA true cs=aA true es from e)
 subst this
 exact⟨_,rfl,Br h hc (show aJ [⟨ag,n,q⟩] w ds from⟨by show n<=_; omega,by show q w (aA ag (ds.take n)); rw[List.take_of_length_le (by omega)]; exact hq,List.drop_eq_nil_iff.2 (by show ds.length<=n; omega)⟩) hl⟩
theorem Gz {gs:List Fd} (h:xP gs n fs off=some hs):
  ∀w cs ds,cs.length=N->ds.length=n->pS fs w (aA true cs)->pS gs w (aA true ds)->pS hs w (aA true (cs.take off++ds++cs.drop (off+n))):=by
 rintro w cs ds _ hl ⟨es,e,hc⟩ ⟨es',e',hd⟩
 have:=dF (show aA true cs=aA true es from e)
 subst this
 have:=dF (show aA true ds=aA true es' from e')
 subst this
 exact⟨_,rfl,Br h hc hd hl⟩
def pQ (F:Rat->Pred) (j:Nat) (x:Rat):Pred:=λw v=>bg j x/\F x w v
abbrev pR (j:Nat) (x:Rat):Pred:=pQ au j x
abbrev pN (j:Nat) (x:Rat):Pred:=pQ aR j x
variable {F:Rat->Pred} {j:Nat} {x:Rat}
theorem uQ (h:bg j x):∀w v,F x w v->pQ F j x w v:=λ_ _ k=>⟨h,k⟩
variable {k:Nat}
theorem Bg (h:j<=k):∀w v,pQ F j x w v->pQ F k x w v:=λ_ _ q=>⟨q.1.mono h,q.2⟩
theorem Su {y:Rat} (e:x=y) (h:j<=k):∀w v,pQ F j x w v->pQ F k y w v:=e▸Bg h
theorem pc:aB (pR j x):=λM w v hM h=>λw' he=>⟨h.1,bt x M w v hM h.2 w' he⟩
theorem oZ:aB (pN j x):=λM w v hM h=>λw' he=>⟨h.1,bk x M w v hM h.2 w' he⟩
theorem nQ:Fits 3 true (pR j x):=λw v h=>aN x w v h.2
theorem sQ:Fits 3 true (pN j x):=λw v h=>bJ x w v h.2
inductive Zl
 |r|f|i|b|n|s
def Zl.fd:Zl->Fd
 |.r=>⟨true,3,pR 1 0⟩
 |.f=>⟨true,3,dr⟩
 |.i=>⟨false,1,pI 0⟩
 |.b=>⟨false,1,pB false⟩
 |.n=>⟨false,1,cI (.slice none 0 0)⟩
 |.s=>⟨false,1,cI (.string ⟨#[]⟩)⟩
def Zl.cs:Zl->List Value
 |.r|.f=>[.bool false,.slice none 0 0,.slice none 0 0]
 |.i=>[.int .i64 0]
 |.b=>[.bool false]
 |.n=>[.slice none 0 0]
 |.s=>[.string ⟨#[]⟩]
theorem X8:bg 1 (0:Rat):=⟨by show(0:Rat).num.natAbs<2^1; decide,by show(0:Rat).den<2^1; decide⟩
theorem NH (w:World):∀l:List Zl,aJ (l.map Zl.fd) w (l.flatMap Zl.cs):=by
 intro l
 induction l with
 |nil=>rfl
 |cons z l ih=>
  have e:(Zl.fd z).n=(Zl.cs z).length:=by cases z<;>rfl
  have hp:(Zl.fd z).p w (aA (Zl.fd z).agg (Zl.cs z)):=by
   cases z
   ·exact⟨X8,cF w⟩
   ·trivial
   all_goals rfl
  show(Zl.fd z).n<=_/\_/\_
  rw[List.flatMap_cons,List.length_append,List.take_append_of_le_length (by omega),List.take_of_length_le (by omega),List.drop_append_of_le_length (by omega),List.drop_of_length_le (by omega)]
  exact⟨by omega,hp,ih⟩
theorem Dm:∀l:List Zl,∀u∈l.flatMap Zl.cs,fq u:=by
 intro l u hu
 obtain⟨z,_,hz⟩:=List.mem_flatMap.1 hu
 cases z<;>simp[Zl.cs]at hz<;>(try rcases hz with rfl|rfl)<;>(try subst hz)<;>intro n<;>simp
theorem Dl (l:List Zl) (w:World):pS (l.map Zl.fd) w (aA true (l.flatMap Zl.cs)):=⟨_,rfl,NH w l⟩
def Ap (F:Rat->Pred) (j:Nat) (x:Rat):Fd:=⟨true,3,pQ F j x⟩
def pV (F:Rat->Pred) (j:Nat) (l:List Rat):Pred:=pS (l.map (Ap F j))
section
variable {F:Rat->Pred} {j k:Nat} {l:List Rat}
theorem Nv (h:j<=k):∀{l:List Rat} {w:World} {cs:List Value},aJ (l.map (Ap F j)) w cs->aJ (l.map (Ap F k)) w cs
 |[],_,_,h=>h
 |_::_,_,_,⟨h1,h2,h3⟩=>⟨h1,Bg h _ _ h2,Nv h h3⟩
theorem Ev (h:j<=k):∀w v,pV F j l w v->pV F k l w v:=λ_ _ ⟨cs,e,hc⟩=>⟨cs,e,Nv h hc⟩
theorem uT {l':List Rat} (e:l=l') (h:j<=k):∀w v,pV F j l w v->pV F k l' w v:=e▸Ev h
theorem JI:∀{l:List Rat} {w:World} {cs:List Value},aJ (l.map (Ap F j)) w cs->cs.length=3*l.length
 |[],_,_,h=>by rw[show _=[]from h]; rfl
 |_::l,_,cs,⟨h1,_,h3⟩=>by
  have:=JI h3
  have h1:3<=cs.length:=h1
  have:cs.length-3=3*l.length:=by rw[<-List.length_drop]; exact this
  rw[List.length_cons]; omega
theorem Es:∀{l:List Rat} {w:World} {cs:List Value} (q:Nat),aJ (l.map (Ap F j)) w cs->aJ ((l.drop q).map (Ap F j)) w (cs.drop (q*3))
 |l,_,_,0,h=>by rw[Nat.zero_mul,List.drop_zero,List.drop_zero]; exact h
 |[],_,_,_+1,h=>by rw[show _=[]from h]; rfl
 |_::_,_,_,q+1,⟨_,_,h3⟩=>by
  have:=Es q h3
  rw[List.drop_drop,show(Ap F j _).n+q*3=(q+1)*3 from(show 3+q*3=(q+1)*3 by omega)]at this
  exact this
theorem Et:∀{l:List Rat} {w:World} {cs:List Value} (q:Nat),aJ (l.map (Ap F j)) w cs->aJ ((l.take q).map (Ap F j)) w (cs.take (q*3))
 |l,_,_,0,_=>by rw[Nat.zero_mul,List.take_zero,List.take_zero]; rfl
 |[],_,_,_+1,h=>by rw[show _=[]from h]; rfl
 |_::_,w,cs,q+1,⟨h1,h2,h3⟩=>by
  have h1:3<=cs.length:=h1
  refine⟨?_,?_,?_⟩
  ·show 3<=(cs.take ((q+1)*3)).length; rw[List.length_take]; omega
  ·show pQ F j _ w (aA true ((cs.take ((q+1)*3)).take 3)); rw[List.take_take,Nat.min_eq_left (by omega)]; exact h2
  ·show aJ _ w ((cs.take ((q+1)*3)).drop 3); rw[List.drop_take,show(q+1)*3-3=q*3 by omega]; exact Et q h3
theorem Pu {x:Rat} {w:World} {ds:List Value} (hl:ds.length=3):aJ ([x].map (Ap F j)) w ds↔pQ F j x w (aA true ds):=by
 refine⟨λ⟨_,h2,_⟩=>?_,λh=>⟨by show 3<=_; omega,?_,List.drop_eq_nil_iff.2 (by show _<=3; omega)⟩⟩
 ·have h2:pQ F j x w (aA true (ds.take 3)):=h2
  rwa [List.take_of_length_le (by omega)]at h2
 ·show pQ F j x w (aA true (ds.take 3))
  rwa [List.take_of_length_le (by omega)]
theorem uc {l:List Rat} {q:Nat} (h:q<l.length):(l.drop q).take 1=[l.getD q 0]:=by
 rw[List.drop_eq_getElem_cons h,List.take_succ_cons,List.take_zero,List.getD_eq_getElem?_getD,List.getElem?_eq_getElem h]; rfl
variable {off:Nat}
theorem Px (q m:Nat) (ho:off=q*3) {N:Nat}:∀w cs,cs.length=N->pV F j l w (aA true cs)->pV F j ((l.drop q).take m) w (aA true ((cs.drop off).take (m*3))):=by
 rintro w cs _ ⟨ds,e,h⟩
 have:=dF (show aA true cs=aA true ds from e)
 subst this ho
 exact⟨_,rfl,Et m (Es q h)⟩
theorem Pw (q:Nat) (ho:off=q*3) (hq:q<l.length) {N:Nat}:∀w cs,cs.length=N->pV F j l w (aA true cs)->pQ F j (l.getD q 0) w (aA true ((cs.drop off).take 3)):=by
 intro w cs hN h
 obtain⟨ds,e,h⟩:=Px q 1 ho w cs hN h
 rw[uc hq]at h
 have e:=dF (show aA true _=aA true ds from e)
 have hl:=JI h
 rw[Nat.one_mul]at e
 rw[e]
 exact(Pu hl).1 h
theorem uE (hF:∀x,aB (pQ F j x)):∀{l:List Rat} {M:Nat->Nat->Prop} {w:World} {cs:List Value},dc M w->aJ (l.map (Ap F j)) w cs->aL M (λw=>aJ (l.map (Ap F j)) w cs) w
 |[],_,_,_,_,h=>λ_ _=>h
 |x::_,M,w,_,hM,⟨h1,h2,h3⟩=>λw' he=>⟨h1,hF x M w _ hM h2 w' he,uE hF hM h3 w' he⟩
theorem uF (hF:∀x,aB (pQ F j x)):aB (pV F j l):=by
 rintro M w v hM ⟨cs,rfl,h⟩ w' he
 exact⟨cs,rfl,uE hF hM h w' he⟩
theorem tB (hF:∀x,Fits 3 true (pQ F j x)):∀{l:List Rat},sE (l.map (Ap F j))
 |[]=>trivial
 |x::_=>⟨hF x,tB hF⟩
theorem EA:∀{l:List Rat},mj (l.map (Ap F j))=l.length*3
 |[]=>rfl
 |_::l=>by show 3+mj (l.map (Ap F j))=(l.length+1)*3; rw[EA]; omega
theorem nR (hF:∀x,Fits 3 true (pQ F j x)) {n:Nat} (hn:n=l.length*3):Fits n true (pV F j l):=iO (tB hF) (by rw[hn]; exact EA)
inductive qL (F:Rat->Pred) (j:Nat):List Fd->List Rat->Prop
 |z:qL F j [] []
 |c {i:Nat} {x:Rat} {fs:List Fd} {l:List Rat} (h:i<=j):qL F j fs l->qL F j (⟨true,3,pQ F i x⟩::fs) (x::l)
variable {fs:List Fd}
theorem qL.ok (h:qL F j fs l):∀{w:World} {cs:List Value},aJ fs w cs->aJ (l.map (Ap F j)) w cs:=by
 induction h with
 |z=>exactλh=>h
 |c hi _ ih=>exact λ⟨h1,h2,h3⟩=>⟨h1,Bg hi _ _ h2,ih h3⟩
theorem qL.pV (h:qL F j fs l):∀w v,pS fs w v->Wx.pV F j l w v:=λ_ _ ⟨cs,e,hc⟩=>⟨cs,e,h.ok hc⟩
end
end Wx

namespace Wx
open Go Go.RowKit
def D9 (ms:List Nat) (i s:Nat):List bI->Option Pred
 |[]=>none
 |⟨t,f,s',p⟩::r=>match Nat.beq s' s&&(sB ms i t&&jQ ms i f)with
  |true=>some p
  |false=>D9 ms i s r
def jX (i:Nat):List bI->Option Pred
 |[]=>none
 |⟨none,_,_,_⟩::r=>jX i r
 |⟨some j,_,_,p⟩::r=>match Nat.beq j i with
  |true=>some p
  |false=>jX i r
def iW (s:Nat):List bI->Option Pred
 |[]=>none
 |⟨none,none,s',p⟩::r=>match Nat.beq s' s with
  |true=>some p
  |false=>iW s r
 |_::r=>iW s r
def Kv (ms:List Nat) (i s:Nat):List Al->Option Al
 |[]=>none
 |⟨t,s',v,o,c⟩::r=>match Nat.beq s' s&&sB ms i t with
  |true=>some ⟨t,s',v,o,c⟩
  |false=>Kv ms i s r
def KP (i:Nat):List Al->Option Al
 |[]=>none
 |⟨none,_,_,_,_⟩::r=>KP i r
 |⟨some j,s',v,o,c⟩::r=>match Nat.beq j i with
  |true=>some ⟨some j,s',v,o,c⟩
  |false=>KP i r
def om (id:Nat):List Vr->Option Vr
 |[]=>none
 |⟨d,s',b,e,kd,T,n,ag,c0,st⟩::r=>match Nat.beq d id with
  |true=>some ⟨d,s',b,e,kd,T,n,ag,c0,st⟩
  |false=>om id r
def Qg (ms:List Nat) (i s:Nat):List Vr->Option Vr
 |[]=>none
 |⟨d,s',b,e,kd,T,n,ag,c0,st⟩::r=>match Nat.beq s' s&&(sB ms i b&&jQ ms i e)with
  |true=>some ⟨d,s',b,e,kd,T,n,ag,c0,st⟩
  |false=>Qg ms i s r
def GG (i:Nat):List Vr->Option Vr
 |[]=>none
 |⟨_,_,none,_,_,_,_,_,_,_⟩::r=>GG i r
 |⟨d,s',some j,e,kd,T,n,ag,c0,st⟩::r=>match Nat.beq j i with
  |true=>some ⟨d,s',some j,e,kd,T,n,ag,c0,st⟩
  |false=>GG i r
def SC (i:Nat):List (Nat×Rel)->Option (Rel×List (Nat×Rel))
 |[]=>none
 |(j,q)::r=>match Nat.beq j i with
  |true=>some (q,r)
  |false=>SC i r
theorem eF {α:Type} {x:α} {r:List α} {y:α} (h:∃k:Nat,r[k]?=some y):∃k:Nat,(x::r)[k]?=some y:=h.elim λk hk=>⟨k+1,hk⟩
variable {ms:List Nat} {i s:Nat} {p:Pred}
theorem FP:∀{G:List bI},D9 ms i s G=some p->∃t f,(∃k:Nat,G[k]?=some ⟨t,f,s,p⟩)/\(sB ms i t&&jQ ms i f)=true:=by
 intro G
 induction G with
 |nil=>intro h; cases h
 |cons e r ih=>
  intro h
  obtain⟨t,f,s',p'⟩:=e
  unfold D9 at h
  split at h
  ·rename_i hb
   rw[Bool.and_eq_true]at hb
   have h1:=Nat.eq_of_beq_eq_true hb.1
   subst h1
   cases h
   exact⟨t,f,⟨0,rfl⟩,hb.2⟩
  ·obtain⟨t,f,hk,h2⟩:=ih h
   exact⟨t,f,eF hk,h2⟩
variable {G:List bI}
theorem look (h:D9 ms i s G=some p):Has ms G i (.tmp s) p:=by
 obtain⟨t,f,⟨k,hk⟩,h2⟩:=FP h
 exact .tmp k hk h2
theorem post:∀{G:List bI},jX i G=some p->∃s f,∃k:Nat,G[k]?=some ⟨some i,f,s,p⟩:=by
 intro G
 induction G with
 |nil=>intro h; cases h
 |cons e r ih=>
  intro h
  obtain⟨t,f,s',p'⟩:=e
  cases t with
  |none=>obtain⟨s,f,hk⟩:=ih h; exact⟨s,f,eF hk⟩
  |some j=>
   simp only[jX]at h
   split at h
   ·rename_i hb
    have hb:=Nat.eq_of_beq_eq_true hb
    subst hb
    cases h
    exact⟨s',f,0,rfl⟩
   ·obtain⟨s,f,hk⟩:=ih h; exact⟨s,f,eF hk⟩
theorem pt (h:jX i G=some p):Post G i p:=by
 obtain⟨s,f,k,hk⟩:=post h
 exact .here k hk
variable {φ:Prop}
theorem VR (hφ:φ) (h:jX i G=some (qw φ p)):Post G i p:=by
 obtain⟨s,f,k,hk⟩:=post h
 exact .NC hφ k hk
theorem ZH (hφ:¬φ) (h:jX i G=some (qw φ p)):Post G i (cI undef):=by
 obtain⟨s,f,k,hk⟩:=post h
 exact .C6 hφ k hk
theorem gj:∀{G:List bI},iW s G=some p->∃k:Nat,G[k]?=some ⟨none,none,s,p⟩:=by
 intro G
 induction G with
 |nil=>intro h; cases h
 |cons e r ih=>
  intro h
  obtain⟨t,f,s',p'⟩:=e
  cases t with
  |some _=>exact eF (ih h)
  |none=>
   cases f with
   |some _=>exact eF (ih h)
   |none=>
    simp only[iW]at h
    split at h
    ·rename_i hb
     have hb:=Nat.eq_of_beq_eq_true hb
     subst hb
     cases h
     exact⟨0,rfl⟩
    ·exact eF (ih h)
variable {al:Al}
theorem sJ:∀{A:List Al},Kv ms i s A=some al->(∃k:Nat,A[k]?=some al)/\al.slot=s/\sB ms i al.tag=true:=by
 intro A
 induction A with
 |nil=>intro h; cases h
 |cons e r ih=>
  intro h
  obtain⟨t,s',v,o,c⟩:=e
  unfold Kv at h
  split at h
  ·rename_i hb
   rw[Bool.and_eq_true]at hb
   cases h
   exact⟨⟨0,rfl⟩,Nat.eq_of_beq_eq_true hb.1,hb.2⟩
  ·obtain⟨h1,h2⟩:=ih h
   exact⟨eF h1,h2⟩
theorem pK:∀{A:List Al},KP i A=some al->(∃k:Nat,A[k]?=some al)/\al.tag=some i:=by
 intro A
 induction A with
 |nil=>intro h; cases h
 |cons e r ih=>
  intro h
  obtain⟨t,s',v,o,c⟩:=e
  cases t with
  |none=>obtain⟨h1,h2⟩:=ih h; exact⟨eF h1,h2⟩
  |some j=>
   simp only[KP]at h
   split at h
   ·rename_i hb
    have hb:=Nat.eq_of_beq_eq_true hb
    subst hb
    cases h
    exact⟨⟨0,rfl⟩,rfl⟩
   ·obtain⟨h1,h2⟩:=ih h; exact⟨eF h1,h2⟩
variable {x:Vr}
theorem gw {id:Nat}:∀{V:List Vr},om id V=some x->(∃k:Nat,V[k]?=some x)/\id=x.id:=by
 intro V
 induction V with
 |nil=>intro h; cases h
 |cons e r ih=>
  intro h
  obtain⟨d,s',b,e,kd,T,n,ag,c0,st⟩:=e
  unfold om at h
  split at h
  ·rename_i hb
   cases h
   exact⟨⟨0,rfl⟩,(Nat.eq_of_beq_eq_true hb).symm⟩
  ·obtain⟨h1,h2⟩:=ih h
   exact⟨eF h1,h2⟩
theorem zq:∀{V:List Vr},Qg ms i s V=some x->(∃k:Nat,V[k]?=some x)/\x.slot=s/\cG ms i x=true:=by
 intro V
 induction V with
 |nil=>intro h; cases h
 |cons e r ih=>
  intro h
  obtain⟨d,s',b,e,kd,T,n,ag,c0,st⟩:=e
  unfold Qg at h
  split at h
  ·rename_i hb
   rw[Bool.and_eq_true]at hb
   cases h
   exact⟨⟨0,rfl⟩,Nat.eq_of_beq_eq_true hb.1,hb.2⟩
  ·obtain⟨h1,h2⟩:=ih h
   exact⟨eF h1,h2⟩
theorem mb:∀{V:List Vr},GG i V=some x->(∃k:Nat,V[k]?=some x)/\x.born=some i:=by
 intro V
 induction V with
 |nil=>intro h; cases h
 |cons e r ih=>
  intro h
  obtain⟨d,s',b,e,kd,T,n,ag,c0,st⟩:=e
  cases b with
  |none=>obtain⟨h1,h2⟩:=ih h; exact⟨eF h1,h2⟩
  |some j=>
   simp only[GG]at h
   split at h
   ·rename_i hb
    have hb:=Nat.eq_of_beq_eq_true hb
    subst hb
    cases h
    exact⟨⟨0,rfl⟩,rfl⟩
   ·obtain⟨h1,h2⟩:=ih h; exact⟨eF h1,h2⟩
theorem EB {q:Rel} {r:List (Nat×Rel)}:∀{st:List (Nat×Rel)},SC i st=some (q,r)->∃m,st[m]?=some (i,q)/\st.drop (m+1)=r:=by
 intro st
 induction st with
 |nil=>intro h; cases h
 |cons e l ih=>
  intro h
  obtain⟨j,q'⟩:=e
  unfold SC at h
  split at h
  ·rename_i hb
   have hb:=Nat.eq_of_beq_eq_true hb
   subst hb
   cases h
   exact⟨0,rfl,rfl⟩
  ·obtain⟨m,h1,h2⟩:=ih h
   exact⟨m+1,h1,h2⟩
section
variable {P:Program} {ops:Array Oper} {ms:List Nat} {c:eL} {V:List Vr} {A:List Al} {G:List bI} {i:Nat}{d:Nat} {x y z:Operand} {ty:TypeId} {pos:String} {aZ:Array Edge}{t u:TypeId} {m n:Int} {k:IntKind}
theorem Ek (h1:Has ms G i x (cI (.int k m))) (h2:Has ms G i y (cI (.int k n))) (hp:Post G i (pB (decide (m<n)))):OpOk P ops ms c V A G i ⟨some d,.binOp .lss t x y u,ty,pos,aZ,none⟩:=gg h1 h2 (λ_=>by cases k<;>rfl) hp
theorem Ej (h1:Has ms G i x (cI (.int k m))) (h2:Has ms G i y (cI (.int k n))) (hp:Post G i (pB (decide (m<=n)))):OpOk P ops ms c V A G i ⟨some d,.binOp .leq t x y u,ty,pos,aZ,none⟩:=gg h1 h2 (λ_=>by cases k<;>rfl) hp
theorem Eh (h1:Has ms G i x (cI (.int k m))) (h2:Has ms G i y (cI (.int k n))) (hp:Post G i (pB (decide (m>n)))):OpOk P ops ms c V A G i ⟨some d,.binOp .gtr t x y u,ty,pos,aZ,none⟩:=gg h1 h2 (λ_=>by cases k<;>rfl) hp
theorem Eg (h1:Has ms G i x (cI (.int k m))) (h2:Has ms G i y (cI (.int k n))) (hp:Post G i (pB (decide (m>=n)))):OpOk P ops ms c V A G i ⟨some d,.binOp .geq t x y u,ty,pos,aZ,none⟩:=gg h1 h2 (λ_=>by cases k<;>rfl) hp
theorem Nr (h1:Has ms G i x (cI (.int k m))) (h2:Has ms G i y (cI (.int k n))) (hp:Post G i (pB (decide (m=n)))):OpOk P ops ms c V A G i ⟨some d,.binOp .eql t x y u,ty,pos,aZ,none⟩:=gg h1 h2 (v:=.bool (m==n)) (λ_=>by cases k<;>rfl) (by rw[show(m==n)=decide (m=n) by by_cases h:m=n<;>simp[h]]; exact hp)
theorem Nu (h1:Has ms G i x (cI (.int k m))) (h2:Has ms G i y (cI (.int k n))) (hp:Post G i (pB (decide (m≠n)))):OpOk P ops ms c V A G i ⟨some d,.binOp .neq t x y u,ty,pos,aZ,none⟩:=gg h1 h2 (v:=.bool (m != n)) (λ_=>by cases k<;>rfl) (by rw[show(m != n)=decide (m≠n) by by_cases h:m=n<;>simp[h]]; exact hp)
theorem Ee (h1:Has ms G i x (pI m)) (h2:Has ms G i y (pI n)) (hp:Post G i (pI (m+n))) (hr:-9223372036854775808<=m+n/\m+n<=9223372036854775807:=by omega):OpOk P ops ms c V A G i ⟨some d,.binOp .add t x y u,ty,pos,aZ,none⟩:=
 gg h1 h2 (v:=.int .i64 (IntKind.i64.wrap (m+n))) (λ_=>rfl) (by rw[IntWalk.i64_in _ hr]; exact hp)
theorem Em (h1:Has ms G i x (pI m)) (h2:Has ms G i y (pI n)) (hp:Post G i (pI (m-n))) (hr:-9223372036854775808<=m-n/\m-n<=9223372036854775807:=by omega):OpOk P ops ms c V A G i ⟨some d,.binOp .sub t x y u,ty,pos,aZ,none⟩:=
 gg h1 h2 (v:=.int .i64 (IntKind.i64.wrap (m-n))) (λ_=>rfl) (by rw[IntWalk.i64_in _ hr]; exact hp)
theorem El (h1:Has ms G i x (pI m)) (h2:Has ms G i y (pI n)) (hp:Post G i (pI (m*n))) (hr:-9223372036854775808<=m*n/\m*n<=9223372036854775807:=by omega):OpOk P ops ms c V A G i ⟨some d,.binOp .mul t x y u,ty,pos,aZ,none⟩:=
 gg h1 h2 (v:=.int .i64 (IntKind.i64.wrap (m*n))) (λ_=>rfl) (by rw[IntWalk.i64_in _ hr]; exact hp)
variable {T:TypeId} {s:Nat} {v:Vr} {p:Pred}
theorem o_load (hv:Qg ms i s V=some v) (dI:v.kd=.ptr) (hst:(v.st.all λq=>(ms.getD i 0).testBit q.1||(ms.getD q.1 0).testBit i)=true)
  (hc:cont (λj=>(ms.getD i 0).testBit j) v.c0 v.st=pv p) (hp:Post G i p) (ht:Ty P T v.agg v.n):OpOk P ops ms c V A G i ⟨some d,.load T (.tmp s),ty,pos,aZ,none⟩:=by
 obtain⟨⟨k,hk⟩,h1,h2⟩:=zq hv
 exact bG k hk h1 h2 dI hst ht hc hp
variable {agg:Bool} {al:Al} {q:Pred}
theorem mZ {n:Nat} (ha:Kv ms i s A=some al) (hv:om al.var V=some v) (ho:cG ms i v=true) (dI:v.kd=.ptr) (hst:(v.st.all λq=>(ms.getD i 0).testBit q.1||(ms.getD q.1 0).testBit i)=true)
  (hc:cont (λj=>(ms.getD i 0).testBit j) v.c0 v.st=pv p) (ht:Ty P T agg n) (hq:∀w cs,cs.length=v.n->p w (aA v.agg cs)->q w (aA agg ((cs.drop al.off).take n))) (hcd:al.cond) (hp:Post G i q) (hlen:decide (al.off+n<=v.n)=true):OpOk P ops ms c V A G i ⟨some d,.load T (.tmp s),ty,pos,aZ,none⟩:=by
 obtain⟨⟨k2,hk2⟩,h1,h2⟩:=sJ ha
 obtain⟨⟨k,hk⟩,h3⟩:=gw hv
 exact cm k hk k2 hk2 h1 h3 rfl h2 hcd ho dI hst ht hlen hc hq hp
variable {S f off:Nat}
theorem Ef (ha:KP i A=some al) (hv:om al.var V=some v) (ho:cG ms i v=true) (dI:v.kd=.ptr) (hs:v.slot=s)
  (hf:∀b w,(Instr.fieldAt S (.pointer (some ⟨b,0,none⟩)) f).run P w=.ok (.pointer (some ⟨b,off,none⟩)) w) (iI:al.off=off) (hu:(A.filter λq=>q.tag==some i).length=1) (hno:(G.all λe=>e.tag != some i)=true):
  OpOk P ops ms c V A G i ⟨some d,.fieldAddr S (.tmp s) f,ty,pos,aZ,none⟩:=by
 obtain⟨⟨k2,hk2⟩,h1⟩:=pK ha
 obtain⟨⟨k,hk⟩,h3⟩:=gw hv
 exact aq k hk ho dI k2 hk2 h1 h3 iI (.inl ⟨hs.symm,rfl⟩) hu hno hf
variable {qM:Al}
theorem xF (ha:KP i A=some al) (ha0:Kv ms i s A=some qM) (hv:om al.var V=some v) (hv0:qM.var=al.var) (ho:cG ms i v=true) (dI:v.kd=.ptr)
  (hf:∀b w,(Instr.fieldAt S (.pointer (some ⟨b,qM.off,none⟩)) f).run P w=.ok (.pointer (some ⟨b,off,none⟩)) w) (iI:al.off=off) (hcd:qM.cond) (hu:(A.filter λq=>q.tag==some i).length=1) (hno:(G.all λe=>e.tag != some i)=true):
  OpOk P ops ms c V A G i ⟨some d,.fieldAddr S (.tmp s) f,ty,pos,aZ,none⟩:=by
 obtain⟨⟨k2,hk2⟩,h1⟩:=pK ha
 obtain⟨⟨k3,hk3⟩,h4,h5⟩:=sJ ha0
 obtain⟨⟨k,hk⟩,h3⟩:=gw hv
 exact aq k hk ho dI k2 hk2 h1 h3 iI (.inr ⟨k3,qM,hk3,h4,hv0.trans h3,rfl,h5,hcd⟩) hu hno hf
theorem Ei (ha:KP i A=some al) (hv:om al.var V=some v) (ho:cG ms i v=true) (dI:v.kd=.ptr) (hs:v.slot=s) (RA:Has ms G i y (pI n))
  (hf:∀b w,(Instr.indexAt S (.pointer (some ⟨b,0,none⟩)) (.int .i64 n)).run P w=.ok (.pointer (some ⟨b,off,none⟩)) w) (iI:al.off=off) (hu:(A.filter λq=>q.tag==some i).length=1) (hno:(G.all λe=>e.tag != some i)=true):
  OpOk P ops ms c V A G i ⟨some d,.indexAddr S (.tmp s) y,ty,pos,aZ,none⟩:=by
 obtain⟨⟨k2,hk2⟩,h1⟩:=pK ha
 obtain⟨⟨k,hk⟩,h3⟩:=gw hv
 exact qu k hk ho dI k2 hk2 h1 h3 iI (.inl ⟨hs.symm,rfl⟩) hu hno RA hf
theorem xG (ha:KP i A=some al) (ha0:Kv ms i s A=some qM) (hv:om al.var V=some v) (hv0:qM.var=al.var) (ho:cG ms i v=true) (dI:v.kd=.ptr) (RA:Has ms G i y (pI n))
  (hf:∀b w,(Instr.indexAt S (.pointer (some ⟨b,qM.off,none⟩)) (.int .i64 n)).run P w=.ok (.pointer (some ⟨b,off,none⟩)) w) (iI:al.off=off) (hcd:qM.cond) (hu:(A.filter λq=>q.tag==some i).length=1) (hno:(G.all λe=>e.tag != some i)=true):
  OpOk P ops ms c V A G i ⟨some d,.indexAddr S (.tmp s) y,ty,pos,aZ,none⟩:=by
 obtain⟨⟨k2,hk2⟩,h1⟩:=pK ha
 obtain⟨⟨k3,hk3⟩,h4,h5⟩:=sJ ha0
 obtain⟨⟨k,hk⟩,h3⟩:=gw hv
 exact qu k hk ho dI k2 hk2 h1 h3 iI (.inr ⟨k3,qM,hk3,h4,hv0.trans h3,rfl,h5,hcd⟩) hu hno RA hf
variable {r:List (Nat×Rel)}
theorem sZ (hv:Qg ms i s V=some v) (dI:v.kd=.ptr) (h:Has ms G i y p) (hm:SC i v.st=some (pv p,r)) (hr:(r.all λr=>(ms.getD r.1 0).testBit i)=true) (ht:Ty P T v.agg v.n) (hf:Fits v.n v.agg p)
  (Cu:(V.all λy=>y.id==v.id||y.st.all λq=>q.1 != i)=true):OpOk P ops ms c V A G i ⟨none,.store T (.tmp s) y,ty,pos,aZ,none⟩:=by
 obtain⟨⟨k,hk⟩,h1,h2⟩:=zq hv
 obtain⟨m,h3,h4⟩:=EB hm
 exact aS k hk h1 h2 dI m h3 (by rw[h4]; exact hr) Cu ht h hf
theorem xH {n:Nat} {q0:Pred} (ha:Kv ms i s A=some al) (hv:om al.var V=some v) (ho:cG ms i v=true) (dI:v.kd=.ptr) (hst:(v.st.all λq=>q.1==i||((ms.getD i 0).testBit q.1||(ms.getD q.1 0).testBit i))=true)
  (hc:cont (λj=>(ms.getD i 0).testBit j) v.c0 v.st=pv q0) (h:Has ms G i y p) (ht:Ty P T agg n) (hq:∀w cs ds,cs.length=v.n->ds.length=n->q0 w (aA v.agg cs)->p w (aA agg ds)->q w (aA v.agg (cs.take al.off++ds++cs.drop (al.off+n))))
  (hm:SC i v.st=some (pv q,r)) (hr:(r.all λr=>(ms.getD r.1 0).testBit i)=true) (hcd:al.cond) (hf:Fits n agg p) (hlen:decide (al.off+n<=v.n)=true)
  (Cu:(V.all λy=>y.id==v.id||y.st.all λq=>q.1 != i)=true):OpOk P ops ms c V A G i ⟨none,.store T (.tmp s) y,ty,pos,aZ,none⟩:=by
 obtain⟨⟨k2,hk2⟩,h1,h2⟩:=sJ ha
 obtain⟨⟨k,hk⟩,h3⟩:=gw hv
 obtain⟨m,h5,h6⟩:=EB hm
 exact CT k hk k2 hk2 h1 h3 rfl h2 hcd ho dI hst m h5 (by rw[h6]; exact hr) Cu ht hlen hc h hf hq
theorem LQ (l:List Zl) (hv:GG i V=some v) (hT:v.T=T) (dI:v.kd=.ptr) (hc:v.c0=pv (pS (l.map Zl.fd))) (AA:v.agg=true)
  (hz:∀w,(zeroValue T).run P w=.ok (.agg (l.flatMap Zl.cs).toArray) w) (hl:(l.flatMap Zl.cs).length=v.n) (hst:((v.st.all λq=>(ms.getD q.1 0).testBit i)&&V.all λy=>y.dead != some i)=true) (hno:(G.all λe=>e.tag != some i)=true) (iI:(A.all λp=>p.var != v.id||p.tag.any λj=>(ms.getD j 0).testBit i)=true):
  OpOk P ops ms c V A G i ⟨some d,.alloc T,ty,pos,aZ,none⟩:=by
 obtain⟨⟨k,hk⟩,hb⟩:=mb hv
 exact bp k hk hb hst hno iI hT dI hz rfl hl (Dm l) hc λw=>by rw[AA]; exact Dl l w
theorem Jy (l:Zl) {z:Value} (hl:l.cs=[z]) (hv:GG i V=some v) (hT:v.T=T) (dI:v.kd=.ptr) (hc:v.c0=pv l.fd.p) (AA:v.agg=false) (hn:v.n=1)
  (hz:∀w,(zeroValue T).run P w=.ok z w) (yR:z.cells=[z].toArray) (hp:∀w,l.fd.p w z) (hst:((v.st.all λq=>(ms.getD q.1 0).testBit i)&&V.all λy=>y.dead != some i)=true) (hno:(G.all λe=>e.tag != some i)=true) (iI:(A.all λp=>p.var != v.id||p.tag.any λj=>(ms.getD j 0).testBit i)=true):
  OpOk P ops ms c V A G i ⟨some d,.alloc T,ty,pos,aZ,none⟩:=by
 obtain⟨⟨k,hk⟩,hb⟩:=mb hv
 exact bp k hk hb hst hno iI hT dI hz yR hn.symm (λu hu=>Dm [l] u (by simpa [hl] using hu)) hc λw=>by rw[AA]; exact hp w
theorem Sm (hv:GG i V=some v) (hT:v.T=T) (dI:v.kd=.ptr) (h:Has ms G i x p) (hc:v.c0=pv p) (hf:Fits v.n v.agg p) (hst:((v.st.all λq=>(ms.getD q.1 0).testBit i)&&V.all λy=>y.dead != some i)=true) (hno:(G.all λe=>e.tag != some i)=true) (iI:(A.all λp=>p.var != v.id||p.tag.any λj=>(ms.getD j 0).testBit i)=true):
  OpOk P ops ms c V A G i ⟨some d,.box T x,ty,pos,aZ,none⟩:=by
 obtain⟨⟨k,hk⟩,hb⟩:=mb hv
 exact bQ k hk hb hst hno iI hT dI h hf hc
variable {j:Nat} {b cb:Bool} {op:Op} {dst:Option Nat}
theorem VO (hg:jX j G=some (pB cb)) (h:cb=b->OpOk P ops ms c V A G i ⟨dst,op,ty,pos,aZ,none⟩) (hA:¬cb=b->BR A i) (hp:¬cb=b->Post G i (cI undef))
  (hj:(G.all λe=>e.tag != some j||((ms.getD i 0).testBit j&&jQ ms i e.till))=true) (hb:(V.all λx=>(x.born != some i&&x.dead != some i)&&x.st.all λq=>q.1 != i)=true):OpOk P ops ms c V A G i ⟨dst,op,ty,pos,aZ,some (j,b)⟩:=by
 obtain⟨s,f,k,hk⟩:=post hg
 have:=List.all_eq_true.1 hj _ (List.mem_of_getElem? hk)
 exact Bf k hk (by simpa using this) h hb hA hp
theorem Sq (hg:jX j G=some (pB cb)) (hcb:cb=b) (h:OpOk P ops ms c V A G i ⟨dst,op,ty,pos,aZ,none⟩)
  (hj:(G.all λe=>e.tag != some j||((ms.getD i 0).testBit j&&jQ ms i e.till))=true):OpOk P ops ms c V A G i ⟨dst,op,ty,pos,aZ,some (j,b)⟩:=by
 obtain⟨s,f,k,hk⟩:=post hg
 have:=List.all_eq_true.1 hj _ (List.mem_of_getElem? hk)
 subst hcb
 exact Ps k hk (by simpa using this) h
end
end Wx
