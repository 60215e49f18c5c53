import Derived.Test.YtfnmkhlleanppaaGreatDoorJWC11
namespace Wx
open Go Go.RowKit
def lE:List Fd->Nat->Option (List Fd)
 |[],n=>match Nat.beq n 0 with
  |true=>some []
  |false=>none
 |⟨ag,m,p⟩::fs,n=>match Nat.beq n 0 with
  |true=>some []
  |false=>match Nat.ble m n with
   |true=>match lE fs (Nat.sub n m)with
    |some l=>some (⟨ag,m,p⟩::l)
    |none=>none
   |false=>none
def sB:List Fd->Nat->Nat->Option (List Fd)
 |[],_,n=>lE [] n
 |⟨ag,m,p⟩::fs,off,n=>match Nat.beq off 0 with
  |true=>lE (⟨ag,m,p⟩::fs) n
  |false=>match Nat.ble m off with
   |true=>sB fs (Nat.sub off m) n
   |false=>none
def BS:Bool->Option (List Fd)->Option Pred
 |true,some [⟨true,_,p⟩]=>some p
 |true,some l=>some (pS l)
 |false,some [⟨false,_,p⟩]=>some p
 |_,_=>none
def om:List Fd->Nat->Option (List Fd)
 |[],n=>match Nat.beq n 0 with
  |true=>some []
  |false=>none
 |⟨ag,m,p⟩::fs,n=>match Nat.beq n 0 with
  |true=>some (⟨ag,m,p⟩::fs)
  |false=>match Nat.ble m n with
   |true=>om fs (Nat.sub n m)
   |false=>none
def qP:List Fd->Option (List Fd)->Option (List Fd)
 |[],r=>r
 |g::gs,r=>match qP gs r with
  |some l=>some (g::l)
  |none=>none
def oJ (gs:List Fd) (n:Nat):List Fd->Nat->Option (List Fd)
 |[],_=>match Nat.beq n 0 with
  |true=>qP gs (some [])
  |false=>none
 |⟨ag,m,p⟩::fs,off=>match Nat.beq off 0 with
  |true=>qP gs (om (⟨ag,m,p⟩::fs) n)
  |false=>match Nat.ble m off with
   |true=>match oJ gs n fs (Nat.sub off m)with
    |some l=>some (⟨ag,m,p⟩::l)
    |none=>none
   |false=>none
theorem zS:∀{fs:List Fd} {n:Nat} {l:List Fd} {w:World} {cs:List Value},lE fs n=some l->aH fs w cs->aH l w (cs.take n)/\n<=cs.length:=by
 intro fs
 induction fs with
 |nil=>
  intro n l w cs h hc
  unfold lE at h
  split at h
  ·rename_i hb; have hb:=Nat.eq_of_beq_eq_true hb; subst hb; cases h; exact⟨rfl,Nat.zero_le _⟩
  ·cases h
 |cons f fs ih=>
  intro n l w cs h hc
  obtain⟨ag,m,p⟩:=f
  unfold lE at h
  split at h
  ·rename_i hb; have hb:=Nat.eq_of_beq_eq_true hb; subst hb; cases h; exact⟨rfl,Nat.zero_le _⟩
  ·split at h
   ·rename_i hm
    have hm:=Nat.le_of_ble_eq_true hm
    split at h
    ·rename_i l' hl
     cases h
     obtain⟨h1,h2,h3⟩:=hc
     obtain⟨k1,k2⟩:=ih hl h3
     simp only[List.length_drop]at k2 h1
     have k2:n-m<=cs.length-m:=k2
     refine⟨⟨?_,?_,?_⟩,by omega⟩
     ·show m<=(cs.take n).length; rw[List.length_take]; omega
     ·show p w (aq ag ((cs.take n).take m)); rw[List.take_take,Nat.min_eq_left hm]; exact h2
     ·show aH l' w ((cs.take n).drop m); rw[List.drop_take]; exact k1
    ·cases h
   ·cases h
theorem vf:∀{fs:List Fd} {off n:Nat} {l:List Fd} {w:World} {cs:List Value},sB fs off n=some l->aH fs w cs->aH l w ((cs.drop off).take n)/\n+off<=cs.length+(if n=0 then off else 0):=by
 intro fs
 induction fs with
 |nil=>
  intro off n l w cs h hc
  have hn:n=0:=by
   unfold sB lE at h
   split at h
   ·rename_i hb; exact Nat.eq_of_beq_eq_true hb
   ·cases h
  subst hn
  have:cs=[]:=hc
  subst this
  have h:lE [] 0=some l:=h
  cases h
  simp[aH]
 |cons f fs ih=>
  intro off n l w cs h hc
  obtain⟨ag,m,p⟩:=f
  unfold sB at h
  split at h
  ·rename_i hb; have hb:=Nat.eq_of_beq_eq_true hb; subst hb
   obtain⟨k1,k2⟩:=zS h hc
   exact⟨by rw[List.drop_zero]; exact k1,by omega⟩
  ·split at h
   ·rename_i hm
    have hm:=Nat.le_of_ble_eq_true hm
    obtain⟨h1,h2,h3⟩:=hc
    obtain⟨k1,k2⟩:=ih h h3
    rw[List.drop_drop]at k1
    have e:m+Nat.sub off m=off:=by show m+(off-m)=off; omega
    rw[show(({ agg:=ag,n:=m,p:=p }:Fd).n+Nat.sub off m)=off from e]at k1
    refine⟨k1,?_⟩
    rw[List.length_drop]at k2
    have h1:m<=cs.length:=h1
    have k2:n+(off-m)<=cs.length-m+(if n=0 then off-m else 0):=k2
    split at k2<;>rename_i hn
    ·rw[if_pos hn]; omega
    ·rw[if_neg hn]; omega
   ·cases h
variable {ag:Bool} {q:Pred}
theorem uL {l:List Fd} {w:World} {ds:List Value} (h:BS ag (some l)=some q) (hc:aH l w ds):q w (aq ag ds):=by
 unfold BS at h
 split at h
 ·rename_i _ e
  cases h
  cases e
  obtain⟨h1,h2,h3⟩:=hc
  have h3:ds.drop _=[]:=h3
  have:ds.take _=ds:=List.take_of_length_le (List.drop_eq_nil_iff.1 h3)
  rw[this]at h2
  exact h2
 ·rename_i _ e
  cases h
  cases e
  exact⟨ds,rfl,hc⟩
 ·rename_i _ e
  cases h
  cases e
  obtain⟨h1,h2,h3⟩:=hc
  have h3:ds.drop _=[]:=h3
  have:ds.take _=ds:=List.take_of_length_le (List.drop_eq_nil_iff.1 h3)
  rw[this]at h2
  exact h2
 ·cases h
variable {fs:List Fd} {off n N:Nat}
theorem yR (h:BS ag (sB fs off n)=some q):∀w cs,cs.length=N->pS fs w (aq true cs)->q w (aq ag ((cs.drop off).take n)):=by
 rintro w cs _ ⟨ds,e,hd⟩
 have:=cR (show aq true cs=aq true ds from e)
 subst this
 cases hs:sB fs off n with
 |none=>rw[hs]at h; cases ag<;>cases h
 |some l=>rw[hs]at h; exact uL h (vf hs hd).1
theorem xB:∀{fs:List Fd} {n:Nat} {l:List Fd} {w:World} {cs:List Value},om fs n=some l->aH fs w cs->aH l w (cs.drop n):=by
 intro fs
 induction fs with
 |nil=>
  intro n l w cs h hc
  unfold om at h
  split at h
  ·cases h; have:cs=[]:=hc; subst this; simp[aH]
  ·cases h
 |cons f fs ih=>
  intro n l w cs h hc
  obtain⟨ag,m,p⟩:=f
  unfold om at h
  split at h
  ·rename_i hb; have hb:=Nat.eq_of_beq_eq_true hb; subst hb; cases h; exact hc
  ·split at h
   ·rename_i hm
    have hm:=Nat.le_of_ble_eq_true hm
    have:=ih h hc.2.2
    rw[List.drop_drop]at this
    rwa [show(({ agg:=ag,n:=m,p:=p }:Fd).n+Nat.sub n m)=n from(show m+(n-m)=n by omega)]at this
   ·cases h
theorem pc:∀{gs r l:List Fd} {w:World} {ds es:List Value},qP gs (some r)=some l->aH gs w ds->aH r w es->aH l w (ds++es):=by
 intro gs
 induction gs with
 |nil=>intro r l w ds es h hd he; cases h; have:ds=[]:=hd; subst this; exact he
 |cons g gs ih=>
  intro r l w ds es h hd he
  unfold qP at h
  split at h
  ·rename_i l' hl
   cases h
   obtain⟨h1,h2,h3⟩:=hd
   refine⟨by rw[List.length_append]; omega,?_,?_⟩
   ·rw[List.take_append_of_le_length h1]; exact h2
   ·rw[List.drop_append_of_le_length h1]; exact ih hl h3 he
  ·cases h
theorem vx:∀{gs:List Fd},qP gs none=none:=by
 intro gs
 induction gs with
 |nil=>rfl
 |cons g gs ih=>unfold qP; rw[ih]
theorem su:∀{fs gs hs:List Fd} {off n:Nat} {w:World} {cs ds:List Value},oJ gs n fs off=some hs->aH fs w cs->aH gs w ds->ds.length=n->aH hs w (cs.take off++ds++cs.drop (off+n)):=by
 intro fs
 induction fs with
 |nil=>
  intro gs hs off n w cs ds h hc hd hl
  unfold oJ at h
  split at h
  ·rename_i hb; have hb:=Nat.eq_of_beq_eq_true hb; subst hb
   have:cs=[]:=hc
   subst this
   have:=pc h hd (show aH [] w []from rfl)
   simpa using this
  ·cases h
 |cons f fs ih=>
  intro gs hs off n w cs ds h hc hd hl
  obtain⟨ag,m,p⟩:=f
  unfold oJ at h
  split at h
  ·rename_i hb; have hb:=Nat.eq_of_beq_eq_true hb; subst hb
   cases hr:om (⟨ag,m,p⟩::fs) n with
   |none=>rw[hr,vx]at h; cases h
   |some r=>
    rw[hr]at h
    have:=pc h hd (xB hr hc)
    simpa using this
  ·split at h
   ·rename_i hm
    have hm:=Nat.le_of_ble_eq_true hm
    split at h
    ·rename_i l hl'
     cases h
     obtain⟨h1,h2,h3⟩:=hc
     have h1:m<=cs.length:=h1
     have h2:p w (aq ag (cs.take m)):=h2
     have:=ih hl' h3 hd hl
     have e:m+Nat.sub off m=off:=by show m+(off-m)=off; omega
     have hlen:m<=(cs.take off).length:=by rw[List.length_take]; omega
     have e2:(cs.take off++ds++cs.drop (off+n))=cs.take off++(ds++cs.drop (off+n)):=by rw[List.append_assoc]
     refine⟨?_,?_,?_⟩
     ·show m<=_; rw[e2,List.length_append]; omega
     ·show p w (aq ag (List.take m _)); rw[e2,List.take_append_of_le_length hlen,List.take_take,Nat.min_eq_left hm]; exact h2
     ·show aH l w (List.drop m _)
      rw[e2,List.drop_append_of_le_length hlen,List.drop_take]
      have this:aH l w ((cs.drop m).take (off-m)++ds++(cs.drop m).drop ((off-m)+n)):=this
      rw[List.drop_drop,show m+(off-m+n)=off+n by omega,List.append_assoc]at this
      exact this
    ·cases h
   ·cases h
variable {hs:List Fd}
theorem wO (h:oJ [⟨ag,n,q⟩] n fs off=some hs):
  ∀w cs ds,cs.length=N->ds.length=n->pS fs w (aq true cs)->q w (aq ag ds)->pS hs w (aq true (cs.take off++ds++cs.drop (off+n))):=by
 rintro w cs ds _ hl ⟨es,e,hc⟩ hq
 have:=cR (show aq true cs=aq true es from e)
 subst this
 exact⟨_,rfl,su h hc (show aH [⟨ag,n,q⟩] w ds from⟨by show n<=_; omega,by show q w (aq ag (ds.take n)); rw[List.take_of_length_le (by omega)]; exact hq,List.drop_eq_nil_iff.2 (by show ds.length<=n; omega)⟩) hl⟩
theorem wP {gs:List Fd} (h:oJ gs n fs off=some hs):
  ∀w cs ds,cs.length=N->ds.length=n->pS fs w (aq true cs)->pS gs w (aq true ds)->pS hs w (aq true (cs.take off++ds++cs.drop (off+n))):=by
 rintro w cs ds _ hl ⟨es,e,hc⟩ ⟨es',e',hd⟩
 have:=cR (show aq true cs=aq true es from e)
 subst this
 have:=cR (show aq true ds=aq true es' from e')
 subst this
 exact⟨_,rfl,su h hc hd hl⟩
def pQ (F:Rat->Pred) (j:Nat) (x:Rat):Pred:=λw v=>F8 j x/\F x w v
abbrev pR (j:Nat) (x:Rat):Pred:=pQ Fk j x
abbrev pN (j:Nat) (x:Rat):Pred:=pQ Fm j x
variable {F:Rat->Pred} {j k:Nat} {x:Rat}
theorem rZ (h:j<=k):∀w v,pQ F j x w v->pQ F k x w v:=λ_ _ q=>⟨q.1.mono h,q.2⟩
theorem H7 {y:Rat} (e:x=y) (h:j<=k):∀w v,pQ F j x w v->pQ F k y w v:=e▸rZ h
theorem jk:aO (pR j x):=λM w v hM h=>λw' he=>⟨h.1,iI x M w v hM h.2 w' he⟩
theorem jj:aO (pN j x):=λM w v hM h=>λw' he=>⟨h.1,iJ x M w v hM h.2 w' he⟩
theorem pC:Fits 3 true (pR j x):=λw v h=>qW x w v h.2
theorem pA:Fits 3 true (pN j x):=λw v h=>qX x w v h.2
inductive Zl
 |r|f|i|b|n|s
def Zl.fd:Zl->Fd
 |.r=>⟨true,3,pR 1 0⟩
 |.f=>⟨true,3,aT⟩
 |.i=>⟨false,1,pI 0⟩
 |.b=>⟨false,1,pB false⟩
 |.n=>⟨false,1,aG (.slice none 0 0)⟩
 |.s=>⟨false,1,aG (.string ⟨#[]⟩)⟩
def Zl.cs:Zl->List Value
 |.r|.f=>[.bool false,.slice none 0 0,.slice none 0 0]
 |.i=>[.int .i64 0]
 |.b=>[.bool false]
 |.n=>[.slice none 0 0]
 |.s=>[.string ⟨#[]⟩]
theorem LM:F8 1 (0:Rat):=⟨by show(0:Rat).num.natAbs<2^1; decide,by show(0:Rat).den<2^1; decide⟩
theorem Dz (w:World):∀l:List Zl,aH (l.map Zl.fd) w (l.flatMap Zl.cs):=by
 intro l
 induction l with
 |nil=>rfl
 |cons z l ih=>
  have e:(Zl.fd z).n=(Zl.cs z).length:=by cases z<;>rfl
  have hp:(Zl.fd z).p w (aq (Zl.fd z).agg (Zl.cs z)):=by
   cases z
   ·exact⟨LM,tq w⟩
   ·trivial
   all_goals rfl
  show(Zl.fd z).n<=_/\_/\_
  rw[List.flatMap_cons,List.length_append,List.take_append_of_le_length (by omega),List.take_of_length_le (by omega),List.drop_append_of_le_length (by omega),List.drop_of_length_le (by omega)]
  exact⟨by omega,hp,ih⟩
theorem Ag:∀l:List Zl,∀u∈l.flatMap Zl.cs,dB u:=by
 intro l u hu
 obtain⟨z,_,hz⟩:=List.mem_flatMap.1 hu
 cases z<;>simp[Zl.cs]at hz<;>(try rcases hz with rfl|rfl)<;>(try subst hz)<;>intro n<;>simp
theorem Af (l:List Zl) (w:World):pS (l.map Zl.fd) w (aq true (l.flatMap Zl.cs)):=⟨_,rfl,Dz w l⟩
def AP (F:Rat->Pred) (j:Nat) (x:Rat):Fd:=⟨true,3,pQ F j x⟩
def pV (F:Rat->Pred) (j:Nat) (l:List Rat):Pred:=pS (l.map (AP F j))
section
variable {F:Rat->Pred} {j k:Nat} {l:List Rat}
theorem Dp (h:j<=k):∀{l:List Rat} {w:World} {cs:List Value},aH (l.map (AP F j)) w cs->aH (l.map (AP F k)) w cs
 |[],_,_,h=>h
 |_::_,_,_,⟨h1,h2,h3⟩=>⟨h1,rZ h _ _ h2,Dp h h3⟩
theorem zD (h:j<=k):∀w v,pV F j l w v->pV F k l w v:=λ_ _ ⟨cs,e,hc⟩=>⟨cs,e,Dp h hc⟩
theorem H8 {l':List Rat} (e:l=l') (h:j<=k):∀w v,pV F j l w v->pV F k l' w v:=e▸zD h
theorem mV (hF:∀x,aO (pQ F j x)):∀{l:List Rat} {M:Nat->Nat->Prop} {w:World} {cs:List Value},cS M w->aH (l.map (AP F j)) w cs->aJ M (λw=>aH (l.map (AP F j)) w cs) w
 |[],_,_,_,_,h=>λ_ _=>h
 |x::_,M,w,_,hM,⟨h1,h2,h3⟩=>λw' he=>⟨h1,hF x M w _ hM h2 w' he,mV hF hM h3 w' he⟩
theorem mW (hF:∀x,aO (pQ F j x)):aO (pV F j l):=by
 rintro M w v hM ⟨cs,rfl,h⟩ w' he
 exact⟨cs,rfl,mV hF hM h w' he⟩
theorem mo (hF:∀x,Fits 3 true (pQ F j x)):∀{l:List Rat},lN (l.map (AP F j))
 |[]=>trivial
 |x::_=>⟨hF x,mo hF⟩
theorem uW:∀{l:List Rat},gZ (l.map (AP F j))=l.length*3
 |[]=>rfl
 |_::l=>by show 3+gZ (l.map (AP F j))=(l.length+1)*3; rw[uW]; omega
theorem uq (hF:∀x,Fits 3 true (pQ F j x)) {n:Nat} (hn:n=l.length*3):Fits n true (pV F j l):=mB (mo hF) (by rw[hn]; exact uW)
inductive vm (F:Rat->Pred) (j:Nat):List Fd->List Rat->Prop
 |z:vm F j [] []
 |c {i:Nat} {x:Rat} {fs:List Fd} {l:List Rat} (h:i<=j):vm F j fs l->vm F j (⟨true,3,pQ F i x⟩::fs) (x::l)
variable {fs:List Fd}
theorem vm.ok (h:vm F j fs l):∀{w:World} {cs:List Value},aH fs w cs->aH (l.map (AP F j)) w cs:=by
 induction h with
 |z=>exactλh=>h
 |c hi _ ih=>exact λ⟨h1,h2,h3⟩=>⟨h1,rZ hi _ _ h2,ih h3⟩
theorem vm.pV (h:vm F j fs l):∀w v,pS fs w v->Wx.pV F j l w v:=λ_ _ ⟨cs,e,hc⟩=>⟨cs,e,h.ok hc⟩
end
end Wx

namespace Wx
open Go Go.RowKit
def uG (ms:List Nat) (i s:Nat):List aN->Option Pred
 |[]=>none
 |⟨t,f,s',p⟩::r=>match Nat.beq s' s&&(nR ms i t&&fN ms i f)with
  |true=>some p
  |false=>uG ms i s r
def fZ (i:Nat):List aN->Option Pred
 |[]=>none
 |⟨none,_,_,_⟩::r=>fZ i r
 |⟨some j,_,_,p⟩::r=>match Nat.beq j i with
  |true=>some p
  |false=>fZ i r
def dz (s:Nat):List aN->Option Pred
 |[]=>none
 |⟨none,none,s',p⟩::r=>match Nat.beq s' s with
  |true=>some p
  |false=>dz s r
 |_::r=>dz s r
def Ge (ms:List Nat) (i s:Nat):List Al->Option Al
 |[]=>none
 |⟨t,s',v,o,c⟩::r=>match Nat.beq s' s&&nR ms i t with
  |true=>some ⟨t,s',v,o,c⟩
  |false=>Ge ms i s r
def Gf (i:Nat):List Al->Option Al
 |[]=>none
 |⟨none,_,_,_,_⟩::r=>Gf i r
 |⟨some j,s',v,o,c⟩::r=>match Nat.beq j i with
  |true=>some ⟨some j,s',v,o,c⟩
  |false=>Gf i r
def ia (id:Nat):List Vr->Option Vr
 |[]=>none
 |⟨d,s',b,e,kd,T,n,ag,c0,st⟩::r=>match Nat.beq d id with
  |true=>some ⟨d,s',b,e,kd,T,n,ag,c0,st⟩
  |false=>ia id r
def Dy (ms:List Nat) (i s:Nat):List Vr->Option Vr
 |[]=>none
 |⟨d,s',b,e,kd,T,n,ag,c0,st⟩::r=>match Nat.beq s' s&&(nR ms i b&&fN ms i e)with
  |true=>some ⟨d,s',b,e,kd,T,n,ag,c0,st⟩
  |false=>Dy ms i s r
def sN (i:Nat):List Vr->Option Vr
 |[]=>none
 |⟨_,_,none,_,_,_,_,_,_,_⟩::r=>sN i r
 |⟨d,s',some j,e,kd,T,n,ag,c0,st⟩::r=>match Nat.beq j i with
  |true=>some ⟨d,s',some j,e,kd,T,n,ag,c0,st⟩
  |false=>sN i r
def Ci (i:Nat):List (Nat×Rel)->Option (Rel×List (Nat×Rel))
 |[]=>none
 |(j,q)::r=>match Nat.beq j i with
  |true=>some (q,r)
  |false=>Ci i r
theorem cM {α:Type} {x:α} {r:List α} {y:α} (h:∃k:Nat,r[k]?=some y):∃k:Nat,(x::r)[k]?=some y:=h.elim λk hk=>⟨k+1,hk⟩
variable {ms:List Nat} {i s:Nat} {p:Pred}
theorem we:∀{G:List aN},uG ms i s G=some p->∃t f,(∃k:Nat,G[k]?=some ⟨t,f,s,p⟩)/\(nR ms i t&&fN ms i f)=true:=by
 intro G
 induction G with
 |nil=>intro h; cases h
 |cons e r ih=>
  intro h
  obtain⟨t,f,s',p'⟩:=e
  unfold uG at h
  split at h
  ·rename_i hb
   rw[Bool.and_eq_true]at hb
   have h1:=Nat.eq_of_beq_eq_true hb.1
   subst h1
   cases h
   exact⟨t,f,⟨0,rfl⟩,hb.2⟩
  ·obtain⟨t,f,hk,h2⟩:=ih h
   exact⟨t,f,cM hk,h2⟩
variable {G:List aN}
theorem look (h:uG ms i s G=some p):Has ms G i (.tmp s) p:=by
 obtain⟨t,f,⟨k,hk⟩,h2⟩:=we h
 exact .tmp k hk h2
theorem post:∀{G:List aN},fZ i G=some p->∃s f,∃k:Nat,G[k]?=some ⟨some i,f,s,p⟩:=by
 intro G
 induction G with
 |nil=>intro h; cases h
 |cons e r ih=>
  intro h
  obtain⟨t,f,s',p'⟩:=e
  cases t with
  |none=>obtain⟨s,f,hk⟩:=ih h; exact⟨s,f,cM hk⟩
  |some j=>
   simp only[fZ]at h
   split at h
   ·rename_i hb
    have hb:=Nat.eq_of_beq_eq_true hb
    subst hb
    cases h
    exact⟨s',f,0,rfl⟩
   ·obtain⟨s,f,hk⟩:=ih h; exact⟨s,f,cM hk⟩
theorem pt (h:fZ i G=some p):Post G i p:=by
 obtain⟨s,f,k,hk⟩:=post h
 exact .here k hk
variable {φ:Prop}
theorem M5 (hφ:φ) (h:fZ i G=some (jc φ p)):Post G i p:=by
 obtain⟨s,f,k,hk⟩:=post h
 exact .F5 hφ k hk
theorem Kt (hφ:¬φ) (h:fZ i G=some (jc φ p)):Post G i (aG undef):=by
 obtain⟨s,f,k,hk⟩:=post h
 exact .FF hφ k hk
theorem cx:∀{G:List aN},dz s G=some p->∃k:Nat,G[k]?=some ⟨none,none,s,p⟩:=by
 intro G
 induction G with
 |nil=>intro h; cases h
 |cons e r ih=>
  intro h
  obtain⟨t,f,s',p'⟩:=e
  cases t with
  |some _=>exact cM (ih h)
  |none=>
   cases f with
   |some _=>exact cM (ih h)
   |none=>
    simp only[dz]at h
    split at h
    ·rename_i hb
     have hb:=Nat.eq_of_beq_eq_true hb
     subst hb
     cases h
     exact⟨0,rfl⟩
    ·exact cM (ih h)
variable {al:Al}
theorem uh:∀{A:List Al},Ge ms i s A=some al->(∃k:Nat,A[k]?=some al)/\al.slot=s/\nR ms i al.tag=true:=by
 intro A
 induction A with
 |nil=>intro h; cases h
 |cons e r ih=>
  intro h
  obtain⟨t,s',v,o,c⟩:=e
  unfold Ge at h
  split at h
  ·rename_i hb
   rw[Bool.and_eq_true]at hb
   cases h
   exact⟨⟨0,rfl⟩,Nat.eq_of_beq_eq_true hb.1,hb.2⟩
  ·obtain⟨h1,h2⟩:=ih h
   exact⟨cM h1,h2⟩
theorem Az:∀{A:List Al},Gf i A=some al->(∃k:Nat,A[k]?=some al)/\al.tag=some i:=by
 intro A
 induction A with
 |nil=>intro h; cases h
 |cons e r ih=>
  intro h
  obtain⟨t,s',v,o,c⟩:=e
  cases t with
  |none=>obtain⟨h1,h2⟩:=ih h; exact⟨cM h1,h2⟩
  |some j=>
   simp only[Gf]at h
   split at h
   ·rename_i hb
    have hb:=Nat.eq_of_beq_eq_true hb
    subst hb
    cases h
    exact⟨⟨0,rfl⟩,rfl⟩
   ·obtain⟨h1,h2⟩:=ih h; exact⟨cM h1,h2⟩
variable {x:Vr}
theorem cH {id:Nat}:∀{V:List Vr},ia id V=some x->(∃k:Nat,V[k]?=some x)/\id=x.id:=by
 intro V
 induction V with
 |nil=>intro h; cases h
 |cons e r ih=>
  intro h
  obtain⟨d,s',b,e,kd,T,n,ag,c0,st⟩:=e
  unfold ia at h
  split at h
  ·rename_i hb
   cases h
   exact⟨⟨0,rfl⟩,(Nat.eq_of_beq_eq_true hb).symm⟩
  ·obtain⟨h1,h2⟩:=ih h
   exact⟨cM h1,h2⟩
theorem kC:∀{V:List Vr},Dy ms i s V=some x->(∃k:Nat,V[k]?=some x)/\x.slot=s/\bC ms i x=true:=by
 intro V
 induction V with
 |nil=>intro h; cases h
 |cons e r ih=>
  intro h
  obtain⟨d,s',b,e,kd,T,n,ag,c0,st⟩:=e
  unfold Dy at h
  split at h
  ·rename_i hb
   rw[Bool.and_eq_true]at hb
   cases h
   exact⟨⟨0,rfl⟩,Nat.eq_of_beq_eq_true hb.1,hb.2⟩
  ·obtain⟨h1,h2⟩:=ih h
   exact⟨cM h1,h2⟩
theorem eP:∀{V:List Vr},sN i V=some x->(∃k:Nat,V[k]?=some x)/\x.born=some i:=by
 intro V
 induction V with
 |nil=>intro h; cases h
 |cons e r ih=>
  intro h
  obtain⟨d,s',b,e,kd,T,n,ag,c0,st⟩:=e
  cases b with
  |none=>obtain⟨h1,h2⟩:=ih h; exact⟨cM h1,h2⟩
  |some j=>
   simp only[sN]at h
   split at h
   ·rename_i hb
    have hb:=Nat.eq_of_beq_eq_true hb
    subst hb
    cases h
    exact⟨⟨0,rfl⟩,rfl⟩
   ·obtain⟨h1,h2⟩:=ih h; exact⟨cM h1,h2⟩
theorem iV {q:Rel} {r:List (Nat×Rel)}:∀{st:List (Nat×Rel)},Ci i st=some (q,r)->∃m,st[m]?=some (i,q)/\st.drop (m+1)=r:=by
 intro st
 induction st with
 |nil=>intro h; cases h
 |cons e l ih=>
  intro h
  obtain⟨j,q'⟩:=e
  unfold Ci at h
  split at h
  ·rename_i hb
   have hb:=Nat.eq_of_beq_eq_true hb
   subst hb
   cases h
   exact⟨0,rfl,rfl⟩
  ·obtain⟨m,h1,h2⟩:=ih h
   exact⟨m+1,h1,h2⟩
section
variable {P:Program} {ops:Array Oper} {ms:List Nat} {c:bQ} {V:List Vr} {A:List Al} {G:List aN} {i:Nat}{d:Nat} {x y z:Operand} {ty:TypeId} {pos:String} {aft:Array Edge}{t u:TypeId} {m n:Int} {k:IntKind}
theorem Di (h1:Has ms G i x (aG (.int k m))) (h2:Has ms G i y (aG (.int k n))) (hp:Post G i (pB (decide (m<n)))):OpOk P ops ms c V A G i ⟨some d,.binOp .lss t x y u,ty,pos,aft,none⟩:=cD h1 h2 (λ_=>by cases k<;>rfl) hp
theorem Dh (h1:Has ms G i x (aG (.int k m))) (h2:Has ms G i y (aG (.int k n))) (hp:Post G i (pB (decide (m<=n)))):OpOk P ops ms c V A G i ⟨some d,.binOp .leq t x y u,ty,pos,aft,none⟩:=cD h1 h2 (λ_=>by cases k<;>rfl) hp
theorem Df (h1:Has ms G i x (aG (.int k m))) (h2:Has ms G i y (aG (.int k n))) (hp:Post G i (pB (decide (m>n)))):OpOk P ops ms c V A G i ⟨some d,.binOp .gtr t x y u,ty,pos,aft,none⟩:=cD h1 h2 (λ_=>by cases k<;>rfl) hp
theorem De (h1:Has ms G i x (aG (.int k m))) (h2:Has ms G i y (aG (.int k n))) (hp:Post G i (pB (decide (m>=n)))):OpOk P ops ms c V A G i ⟨some d,.binOp .geq t x y u,ty,pos,aft,none⟩:=cD h1 h2 (λ_=>by cases k<;>rfl) hp
theorem Dd (h1:Has ms G i x (aG (.int k m))) (h2:Has ms G i y (aG (.int k n))) (hp:Post G i (pB (decide (m=n)))):OpOk P ops ms c V A G i ⟨some d,.binOp .eql t x y u,ty,pos,aft,none⟩:=cD h1 h2 (v:=.bool (m==n)) (λ_=>by cases k<;>rfl) (by rw[show(m==n)=decide (m=n) by by_cases h:m=n<;>simp[h]]; exact hp)
theorem Dl (h1:Has ms G i x (aG (.int k m))) (h2:Has ms G i y (aG (.int k n))) (hp:Post G i (pB (decide (m≠n)))):OpOk P ops ms c V A G i ⟨some d,.binOp .neq t x y u,ty,pos,aft,none⟩:=cD h1 h2 (v:=.bool (m != n)) (λ_=>by cases k<;>rfl) (by rw[show(m != n)=decide (m≠n) by by_cases h:m=n<;>simp[h]]; exact hp)
theorem Db (h1:Has ms G i x (pI m)) (h2:Has ms G i y (pI n)) (hp:Post G i (pI (m+n))) (hr:-9223372036854775808<=m+n/\m+n<=9223372036854775807:=by omega):OpOk P ops ms c V A G i ⟨some d,.binOp .add t x y u,ty,pos,aft,none⟩:=
 cD h1 h2 (v:=.int .i64 (IntKind.i64.wrap (m+n))) (λ_=>rfl) (by rw[IntWalk.i64_in _ hr]; exact hp)
theorem Dm (h1:Has ms G i x (pI m)) (h2:Has ms G i y (pI n)) (hp:Post G i (pI (m-n))) (hr:-9223372036854775808<=m-n/\m-n<=9223372036854775807:=by omega):OpOk P ops ms c V A G i ⟨some d,.binOp .sub t x y u,ty,pos,aft,none⟩:=
 cD h1 h2 (v:=.int .i64 (IntKind.i64.wrap (m-n))) (λ_=>rfl) (by rw[IntWalk.i64_in _ hr]; exact hp)
theorem Dj (h1:Has ms G i x (pI m)) (h2:Has ms G i y (pI n)) (hp:Post G i (pI (m*n))) (hr:-9223372036854775808<=m*n/\m*n<=9223372036854775807:=by omega):OpOk P ops ms c V A G i ⟨some d,.binOp .mul t x y u,ty,pos,aft,none⟩:=
 cD h1 h2 (v:=.int .i64 (IntKind.i64.wrap (m*n))) (λ_=>rfl) (by rw[IntWalk.i64_in _ hr]; exact hp)
variable {T:TypeId} {s:Nat} {v:Vr} {p:Pred}
theorem o_load (hv:Dy ms i s V=some v) (bR:v.kd=.ptr) (hst:(v.st.all λq=>(ms.getD i 0).testBit q.1||(ms.getD q.1 0).testBit i)=true)
  (hc:cont (λj=>(ms.getD i 0).testBit j) v.c0 v.st=pv p) (hp:Post G i p) (ht:Ty P T v.agg v.n):OpOk P ops ms c V A G i ⟨some d,.load T (.tmp s),ty,pos,aft,none⟩:=by
 obtain⟨⟨k,hk⟩,h1,h2⟩:=kC hv
 exact BV k hk h1 h2 bR hst ht hc hp
variable {agg:Bool} {al:Al} {q:Pred}
theorem zh {n:Nat} (ha:Ge ms i s A=some al) (hv:ia al.var V=some v) (ho:bC ms i v=true) (bR:v.kd=.ptr) (hst:(v.st.all λq=>(ms.getD i 0).testBit q.1||(ms.getD q.1 0).testBit i)=true)
  (hc:cont (λj=>(ms.getD i 0).testBit j) v.c0 v.st=pv p) (ht:Ty P T agg n) (hq:∀w cs,cs.length=v.n->p w (aq v.agg cs)->q w (aq agg ((cs.drop al.off).take n))) (hcd:al.cond) (hp:Post G i q) (hlen:decide (al.off+n<=v.n)=true):OpOk P ops ms c V A G i ⟨some d,.load T (.tmp s),ty,pos,aft,none⟩:=by
 obtain⟨⟨k2,hk2⟩,h1,h2⟩:=uh ha
 obtain⟨⟨k,hk⟩,h3⟩:=cH hv
 exact wq k hk k2 hk2 h1 h3 rfl h2 hcd ho bR hst ht hlen hc hq hp
variable {r:List (Nat×Rel)}
theorem fj (hv:Dy ms i s V=some v) (bR:v.kd=.ptr) (h:Has ms G i y p) (hm:Ci i v.st=some (pv p,r)) (hr:(r.all λr=>(ms.getD r.1 0).testBit i)=true) (ht:Ty P T v.agg v.n) (hf:Fits v.n v.agg p)
  (eE:(V.all λy=>y.id==v.id||y.st.all λq=>q.1 != i)=true):OpOk P ops ms c V A G i ⟨none,.store T (.tmp s) y,ty,pos,aft,none⟩:=by
 obtain⟨⟨k,hk⟩,h1,h2⟩:=kC hv
 obtain⟨m,h3,h4⟩:=iV hm
 exact zu k hk h1 h2 bR m h3 (by rw[h4]; exact hr) eE ht h hf
theorem oz {n:Nat} {q0:Pred} (ha:Ge ms i s A=some al) (hv:ia al.var V=some v) (ho:bC ms i v=true) (bR:v.kd=.ptr) (hst:(v.st.all λq=>q.1==i||((ms.getD i 0).testBit q.1||(ms.getD q.1 0).testBit i))=true)
  (hc:cont (λj=>(ms.getD i 0).testBit j) v.c0 v.st=pv q0) (h:Has ms G i y p) (ht:Ty P T agg n) (hq:∀w cs ds,cs.length=v.n->ds.length=n->q0 w (aq v.agg cs)->p w (aq agg ds)->q w (aq v.agg (cs.take al.off++ds++cs.drop (al.off+n))))
  (hm:Ci i v.st=some (pv q,r)) (hr:(r.all λr=>(ms.getD r.1 0).testBit i)=true) (hcd:al.cond) (hf:Fits n agg p) (hlen:decide (al.off+n<=v.n)=true)
  (eE:(V.all λy=>y.id==v.id||y.st.all λq=>q.1 != i)=true):OpOk P ops ms c V A G i ⟨none,.store T (.tmp s) y,ty,pos,aft,none⟩:=by
 obtain⟨⟨k2,hk2⟩,h1,h2⟩:=uh ha
 obtain⟨⟨k,hk⟩,h3⟩:=cH hv
 obtain⟨m,h5,h6⟩:=iV hm
 exact tI k hk k2 hk2 h1 h3 rfl h2 hcd ho bR hst m h5 (by rw[h6]; exact hr) eE ht hlen hc h hf hq
theorem BO (l:List Zl) (hv:sN i V=some v) (hT:v.T=T) (bR:v.kd=.ptr) (hc:v.c0=pv (pS (l.map Zl.fd))) (hag:v.agg=true)
  (hz:∀w,(zeroValue T).run P w=.ok (.agg (l.flatMap Zl.cs).toArray) w) (hl:(l.flatMap Zl.cs).length=v.n) (hst:((v.st.all λq=>(ms.getD q.1 0).testBit i)&&V.all λy=>y.dead != some i)=true) (hno:(G.all λe=>e.tag != some i)=true) (hal:(A.all λp=>p.var != v.id||p.tag.any λj=>(ms.getD j 0).testBit i)=true):
  OpOk P ops ms c V A G i ⟨some d,.alloc T,ty,pos,aft,none⟩:=by
 obtain⟨⟨k,hk⟩,hb⟩:=eP hv
 exact iL k hk hb hst hno hal hT bR hz rfl hl (Ag l) hc λw=>by rw[hag]; exact Af l w
theorem zf (l:Zl) {z:Value} (hl:l.cs=[z]) (hv:sN i V=some v) (hT:v.T=T) (bR:v.kd=.ptr) (hc:v.c0=pv l.fd.p) (hag:v.agg=false) (hn:v.n=1)
  (hz:∀w,(zeroValue T).run P w=.ok z w) (nO:z.cells=[z].toArray) (hp:∀w,l.fd.p w z) (hst:((v.st.all λq=>(ms.getD q.1 0).testBit i)&&V.all λy=>y.dead != some i)=true) (hno:(G.all λe=>e.tag != some i)=true) (hal:(A.all λp=>p.var != v.id||p.tag.any λj=>(ms.getD j 0).testBit i)=true):
  OpOk P ops ms c V A G i ⟨some d,.alloc T,ty,pos,aft,none⟩:=by
 obtain⟨⟨k,hk⟩,hb⟩:=eP hv
 exact iL k hk hb hst hno hal hT bR hz nO hn.symm (λu hu=>Ag [l] u (by simpa [hl] using hu)) hc λw=>by rw[hag]; exact hp w
theorem HS (hv:sN i V=some v) (hT:v.T=T) (bR:v.kd=.ptr) (h:Has ms G i x p) (hc:v.c0=pv p) (hf:Fits v.n v.agg p) (hst:((v.st.all λq=>(ms.getD q.1 0).testBit i)&&V.all λy=>y.dead != some i)=true) (hno:(G.all λe=>e.tag != some i)=true) (hal:(A.all λp=>p.var != v.id||p.tag.any λj=>(ms.getD j 0).testBit i)=true):
  OpOk P ops ms c V A G i ⟨some d,.box T x,ty,pos,aft,none⟩:=by
 obtain⟨⟨k,hk⟩,hb⟩:=eP hv
 exact Fa k hk hb hst hno hal hT bR h hf hc
variable {j:Nat} {b cb:Bool}
theorem Kl {op:Op} {dst:Option Nat} (hg:fZ j G=some (pB cb)) (h:cb=b->OpOk P ops ms c V A G i ⟨dst,op,ty,pos,aft,none⟩) (hA:¬cb=b->me A i) (hp:¬cb=b->Post G i (aG undef))
  (hj:(G.all λe=>e.tag != some j||((ms.getD i 0).testBit j&&fN ms i e.till))=true) (hb:(V.all λx=>(x.born != some i&&x.dead != some i)&&x.st.all λq=>q.1 != i)=true):OpOk P ops ms c V A G i ⟨dst,op,ty,pos,aft,some (j,b)⟩:=by
 obtain⟨s,f,k,hk⟩:=post hg
 have:=List.all_eq_true.1 hj _ (List.mem_of_getElem? hk)
 exact HW k hk (by simpa using this) h hb hA hp
theorem HT {φ:Prop} [Decidable φ] {op:Op} {dst:Option Nat} (hg:fZ j G=some (jc φ (pB cb))) (h:φ/\cb=b->OpOk P ops ms c V A G i ⟨dst,op,ty,pos,aft,none⟩) (hA:¬(φ/\cb=b)->me A i) (hp:¬(φ/\cb=b)->Post G i (aG undef))
  (hj:(G.all λe=>e.tag != some j||((ms.getD i 0).testBit j&&fN ms i e.till))=true) (hb:(V.all λx=>(x.born != some i&&x.dead != some i)&&x.st.all λq=>q.1 != i)=true):OpOk P ops ms c V A G i ⟨dst,op,ty,pos,aft,some (j,b)⟩:=by
 obtain⟨s,f,k,hk⟩:=post hg
 have:=List.all_eq_true.1 hj _ (List.mem_of_getElem? hk)
 exact Fb k hk (by simpa using this) h hb hA hp
end
end Wx
