import Derived.Test.YtikkgpljpglnbaaGreatJRM17
namespace Wx
open Go Go.RowKit
def Cz (ms:List Nat) (i s:Nat):List aV->Option Pred
 |[]=>none
 |⟨t,f,s',p⟩::r=>match Nat.beq s' s&&(qQ ms i t&&iQ ms i f)with
  |true=>some p
  |false=>Cz ms i s r
def kA (i:Nat):List aV->Option Pred
 |[]=>none
 |⟨none,_,_,_⟩::r=>kA i r
 |⟨some j,_,_,p⟩::r=>match Nat.beq j i with
  |true=>some p
  |false=>kA i r
def fD (s:Nat):List aV->Option Pred
 |[]=>none
 |⟨none,none,s',p⟩::r=>match Nat.beq s' s with
  |true=>some p
  |false=>fD s r
 |_::r=>fD s r
def Kc (ms:List Nat) (i s:Nat):List Al->Option Al
 |[]=>none
 |⟨t,s',v,o,c⟩::r=>match Nat.beq s' s&&qQ ms i t with
  |true=>some ⟨t,s',v,o,c⟩
  |false=>Kc ms i s r
def Il (i:Nat):List Al->Option Al
 |[]=>none
 |⟨none,_,_,_,_⟩::r=>Il i r
 |⟨some j,s',v,o,c⟩::r=>match Nat.beq j i with
  |true=>some ⟨some j,s',v,o,c⟩
  |false=>Il i r
def lO (id:Nat):List Vr->Option Vr
 |[]=>none
 |⟨d,s',b,e,kd,T,n,ag,c0,st⟩::r=>match Nat.beq d id with
  |true=>some ⟨d,s',b,e,kd,T,n,ag,c0,st⟩
  |false=>lO id r
def Nk (ms:List Nat) (i s:Nat):List Vr->Option Vr
 |[]=>none
 |⟨d,s',b,e,kd,T,n,ag,c0,st⟩::r=>match Nat.beq s' s&&(qQ ms i b&&iQ ms i e)with
  |true=>some ⟨d,s',b,e,kd,T,n,ag,c0,st⟩
  |false=>Nk ms i s r
def C7 (i:Nat):List Vr->Option Vr
 |[]=>none
 |⟨_,_,none,_,_,_,_,_,_,_⟩::r=>C7 i r
 |⟨d,s',some j,e,kd,T,n,ag,c0,st⟩::r=>match Nat.beq j i with
  |true=>some ⟨d,s',some j,e,kd,T,n,ag,c0,st⟩
  |false=>C7 i r
def NL (i:Nat):List (Nat×Rel)->Option (Rel×List (Nat×Rel))
 |[]=>none
 |(j,q)::r=>match Nat.beq j i with
  |true=>some (q,r)
  |false=>NL i r
theorem cW {α:Type} {x:α} {r:List α} {y:α} (h:∃k:Nat,r[k]?=some y):∃k:Nat,(x::r)[k]?=some y:=h.elim λk hk=>⟨k+1,hk⟩
variable {ms:List Nat} {i s:Nat} {p:Pred}
theorem DN:∀{G:List aV},Cz ms i s G=some p->∃t f,(∃k:Nat,G[k]?=some ⟨t,f,s,p⟩)/\(qQ ms i t&&iQ ms i f)=true:=by
 intro G
 induction G with
 |nil=>intro h; cases h
 |cons e r ih=>
  intro h
  obtain⟨t,f,s',p'⟩:=e
  unfold Cz at h
  split at h
  ·rename_i hb
   rw[Bool.and_eq_true]at hb
   have h1:=Nat.eq_of_beq_eq_true hb.1
   subst h1
   cases h
   exact⟨t,f,⟨0,rfl⟩,hb.2⟩
  ·obtain⟨t,f,hk,h2⟩:=ih h
   exact⟨t,f,cW hk,h2⟩
variable {G:List aV}
theorem look (h:Cz ms i s G=some p):Has ms G i (.tmp s) p:=by
 obtain⟨t,f,⟨k,hk⟩,h2⟩:=DN h
 exact .tmp k hk h2
theorem post:∀{G:List aV},kA i G=some p->∃s f,∃k:Nat,G[k]?=some ⟨some i,f,s,p⟩:=by
 intro G
 induction G with
 |nil=>intro h; cases h
 |cons e r ih=>
  intro h
  obtain⟨t,f,s',p'⟩:=e
  cases t with
  |none=>obtain⟨s,f,hk⟩:=ih h; exact⟨s,f,cW hk⟩
  |some j=>
   simp only[kA]at h
   split at h
   ·rename_i hb
    have hb:=Nat.eq_of_beq_eq_true hb
    subst hb
    cases h
    exact⟨s',f,0,rfl⟩
   ·obtain⟨s,f,hk⟩:=ih h; exact⟨s,f,cW hk⟩
theorem pt (h:kA i G=some p):Post G i p:=by
 obtain⟨s,f,k,hk⟩:=post h
 exact .here k hk
variable {φ:Prop}
theorem W8 (hφ:φ) (h:kA i G=some (qb φ p)):Post G i p:=by
 obtain⟨s,f,k,hk⟩:=post h
 exact .NJ hφ k hk
theorem US (hφ:¬φ) (h:kA i G=some (qb φ p)):Post G i (bp undef):=by
 obtain⟨s,f,k,hk⟩:=post h
 exact .Na hφ k hk
theorem dn:∀{G:List aV},fD s G=some p->∃k:Nat,G[k]?=some ⟨none,none,s,p⟩:=by
 intro G
 induction G with
 |nil=>intro h; cases h
 |cons e r ih=>
  intro h
  obtain⟨t,f,s',p'⟩:=e
  cases t with
  |some _=>exact cW (ih h)
  |none=>
   cases f with
   |some _=>exact cW (ih h)
   |none=>
    simp only[fD]at h
    split at h
    ·rename_i hb
     have hb:=Nat.eq_of_beq_eq_true hb
     subst hb
     cases h
     exact⟨0,rfl⟩
    ·exact cW (ih h)
variable {al:Al}
theorem qY:∀{A:List Al},Kc ms i s A=some al->(∃k:Nat,A[k]?=some al)/\al.slot=s/\qQ ms i al.tag=true:=by
 intro A
 induction A with
 |nil=>intro h; cases h
 |cons e r ih=>
  intro h
  obtain⟨t,s',v,o,c⟩:=e
  unfold Kc at h
  split at h
  ·rename_i hb
   rw[Bool.and_eq_true]at hb
   cases h
   exact⟨⟨0,rfl⟩,Nat.eq_of_beq_eq_true hb.1,hb.2⟩
  ·obtain⟨h1,h2⟩:=ih h
   exact⟨cW h1,h2⟩
theorem nH:∀{A:List Al},Il i A=some al->(∃k:Nat,A[k]?=some al)/\al.tag=some i:=by
 intro A
 induction A with
 |nil=>intro h; cases h
 |cons e r ih=>
  intro h
  obtain⟨t,s',v,o,c⟩:=e
  cases t with
  |none=>obtain⟨h1,h2⟩:=ih h; exact⟨cW h1,h2⟩
  |some j=>
   simp only[Il]at h
   split at h
   ·rename_i hb
    have hb:=Nat.eq_of_beq_eq_true hb
    subst hb
    cases h
    exact⟨⟨0,rfl⟩,rfl⟩
   ·obtain⟨h1,h2⟩:=ih h; exact⟨cW h1,h2⟩
variable {x:Vr}
theorem dX {id:Nat}:∀{V:List Vr},lO id V=some x->(∃k:Nat,V[k]?=some x)/\id=x.id:=by
 intro V
 induction V with
 |nil=>intro h; cases h
 |cons e r ih=>
  intro h
  obtain⟨d,s',b,e,kd,T,n,ag,c0,st⟩:=e
  unfold lO at h
  split at h
  ·rename_i hb
   cases h
   exact⟨⟨0,rfl⟩,(Nat.eq_of_beq_eq_true hb).symm⟩
  ·obtain⟨h1,h2⟩:=ih h
   exact⟨cW h1,h2⟩
theorem rI:∀{V:List Vr},Nk ms i s V=some x->(∃k:Nat,V[k]?=some x)/\x.slot=s/\bA ms i x=true:=by
 intro V
 induction V with
 |nil=>intro h; cases h
 |cons e r ih=>
  intro h
  obtain⟨d,s',b,e,kd,T,n,ag,c0,st⟩:=e
  unfold Nk at h
  split at h
  ·rename_i hb
   rw[Bool.and_eq_true]at hb
   cases h
   exact⟨⟨0,rfl⟩,Nat.eq_of_beq_eq_true hb.1,hb.2⟩
  ·obtain⟨h1,h2⟩:=ih h
   exact⟨cW h1,h2⟩
theorem iZ:∀{V:List Vr},C7 i V=some x->(∃k:Nat,V[k]?=some x)/\x.born=some i:=by
 intro V
 induction V with
 |nil=>intro h; cases h
 |cons e r ih=>
  intro h
  obtain⟨d,s',b,e,kd,T,n,ag,c0,st⟩:=e
  cases b with
  |none=>obtain⟨h1,h2⟩:=ih h; exact⟨cW h1,h2⟩
  |some j=>
   simp only[C7]at h
   split at h
   ·rename_i hb
    have hb:=Nat.eq_of_beq_eq_true hb
    subst hb
    cases h
    exact⟨⟨0,rfl⟩,rfl⟩
   ·obtain⟨h1,h2⟩:=ih h; exact⟨cW h1,h2⟩
theorem xg {q:Rel} {r:List (Nat×Rel)}:∀{st:List (Nat×Rel)},NL i st=some (q,r)->∃m,st[m]?=some (i,q)/\st.drop (m+1)=r:=by
 intro st
 induction st with
 |nil=>intro h; cases h
 |cons e l ih=>
  intro h
  obtain⟨j,q'⟩:=e
  unfold NL at h
  split at h
  ·rename_i hb
   have hb:=Nat.eq_of_beq_eq_true hb
   subst hb
   cases h
   exact⟨0,rfl,rfl⟩
  ·obtain⟨m,h1,h2⟩:=ih h
   exact⟨m+1,h1,h2⟩
section
variable {P:Program} {ops:Array Oper} {ms:List Nat} {c:cM} {V:List Vr} {A:List Al} {G:List aV} {i:Nat}{d:Nat} {x y z:Operand} {ty:TypeId} {pos:String} {aL:Array Edge}{t u:TypeId} {m n:Int} {k:IntKind}
theorem La (h1:Has ms G i x (bp (.int k m))) (h2:Has ms G i y (bp (.int k n))) (hp:Post G i (pB (decide (m<n)))):OpOk P ops ms c V A G i ⟨some d,.binOp .lss t x y u,ty,pos,aL,none⟩:=fu h1 h2 (λ_=>by cases k<;>rfl) hp
theorem K9 (h1:Has ms G i x (bp (.int k m))) (h2:Has ms G i y (bp (.int k n))) (hp:Post G i (pB (decide (m<=n)))):OpOk P ops ms c V A G i ⟨some d,.binOp .leq t x y u,ty,pos,aL,none⟩:=fu h1 h2 (λ_=>by cases k<;>rfl) hp
theorem K7 (h1:Has ms G i x (bp (.int k m))) (h2:Has ms G i y (bp (.int k n))) (hp:Post G i (pB (decide (m>n)))):OpOk P ops ms c V A G i ⟨some d,.binOp .gtr t x y u,ty,pos,aL,none⟩:=fu h1 h2 (λ_=>by cases k<;>rfl) hp
theorem K5 (h1:Has ms G i x (bp (.int k m))) (h2:Has ms G i y (bp (.int k n))) (hp:Post G i (pB (decide (m>=n)))):OpOk P ops ms c V A G i ⟨some d,.binOp .geq t x y u,ty,pos,aL,none⟩:=fu h1 h2 (λ_=>by cases k<;>rfl) hp
theorem KZ (h1:Has ms G i x (bp (.int k m))) (h2:Has ms G i y (bp (.int k n))) (hp:Post G i (pB (decide (m=n)))):OpOk P ops ms c V A G i ⟨some d,.binOp .eql t x y u,ty,pos,aL,none⟩:=fu h1 h2 (v:=.bool (m==n)) (λ_=>by cases k<;>rfl) (by rw[show(m==n)=decide (m=n) by by_cases h:m=n<;>simp[h]]; exact hp)
theorem Lc (h1:Has ms G i x (bp (.int k m))) (h2:Has ms G i y (bp (.int k n))) (hp:Post G i (pB (decide (m≠n)))):OpOk P ops ms c V A G i ⟨some d,.binOp .neq t x y u,ty,pos,aL,none⟩:=fu h1 h2 (v:=.bool (m != n)) (λ_=>by cases k<;>rfl) (by rw[show(m != n)=decide (m≠n) by by_cases h:m=n<;>simp[h]]; exact hp)
theorem KW (h1:Has ms G i x (pI m)) (h2:Has ms G i y (pI n)) (hp:Post G i (pI (m+n))) (hr:-9223372036854775808<=m+n/\m+n<=9223372036854775807:=by omega):OpOk P ops ms c V A G i ⟨some d,.binOp .add t x y u,ty,pos,aL,none⟩:=
 fu h1 h2 (v:=.int .i64 (IntKind.i64.wrap (m+n))) (λ_=>rfl) (by rw[IntWalk.i64_in _ hr]; exact hp)
theorem Ld (h1:Has ms G i x (pI m)) (h2:Has ms G i y (pI n)) (hp:Post G i (pI (m-n))) (hr:-9223372036854775808<=m-n/\m-n<=9223372036854775807:=by omega):OpOk P ops ms c V A G i ⟨some d,.binOp .sub t x y u,ty,pos,aL,none⟩:=
 fu h1 h2 (v:=.int .i64 (IntKind.i64.wrap (m-n))) (λ_=>rfl) (by rw[IntWalk.i64_in _ hr]; exact hp)
theorem Lb (h1:Has ms G i x (pI m)) (h2:Has ms G i y (pI n)) (hp:Post G i (pI (m*n))) (hr:-9223372036854775808<=m*n/\m*n<=9223372036854775807:=by omega):OpOk P ops ms c V A G i ⟨some d,.binOp .mul t x y u,ty,pos,aL,none⟩:=
 fu h1 h2 (v:=.int .i64 (IntKind.i64.wrap (m*n))) (λ_=>rfl) (by rw[IntWalk.i64_in _ hr]; exact hp)
variable {T:TypeId} {s:Nat} {v:Vr} {p:Pred}
theorem o_load (hv:Nk ms i s V=some v) (bS:v.kd=.ptr) (hst:(v.st.all λq=>(ms.getD i 0).testBit q.1||(ms.getD q.1 0).testBit i)=true)
  (hc:cont (λj=>(ms.getD i 0).testBit j) v.c0 v.st=pv p) (hp:Post G i p) (ht:Ty P T v.agg v.n):OpOk P ops ms c V A G i ⟨some d,.load T (.tmp s),ty,pos,aL,none⟩:=by
 obtain⟨⟨k,hk⟩,h1,h2⟩:=rI hv
 exact Jy k hk h1 h2 bS hst ht hc hp
variable {agg:Bool} {al:Al} {q:Pred}
theorem lB {n:Nat} (ha:Kc ms i s A=some al) (hv:lO al.var V=some v) (ho:bA ms i v=true) (bS:v.kd=.ptr) (hst:(v.st.all λq=>(ms.getD i 0).testBit q.1||(ms.getD q.1 0).testBit i)=true)
  (hc:cont (λj=>(ms.getD i 0).testBit j) v.c0 v.st=pv p) (ht:Ty P T agg n) (hq:∀w cs,cs.length=v.n->p w (au v.agg cs)->q w (au agg ((cs.drop al.off).take n))) (hcd:al.cond) (hp:Post G i q) (hlen:decide (al.off+n<=v.n)=true):OpOk P ops ms c V A G i ⟨some d,.load T (.tmp s),ty,pos,aL,none⟩:=by
 obtain⟨⟨k2,hk2⟩,h1,h2⟩:=qY ha
 obtain⟨⟨k,hk⟩,h3⟩:=dX hv
 exact dw k hk k2 hk2 h1 h3 rfl h2 hcd ho bS hst ht hlen hc hq hp
variable {S f off:Nat}
theorem CJ (ha:Il i A=some al) (hv:lO al.var V=some v) (ho:bA ms i v=true) (bS:v.kd=.ptr) (hs:v.slot=s)
  (hf:∀b w,(Instr.fieldAt S (.pointer (some ⟨b,0,none⟩)) f).run P w=.ok (.pointer (some ⟨b,off,none⟩)) w) (fC:al.off=off) (hu:(A.filter λq=>q.tag==some i).length=1) (hno:(G.all λe=>e.tag != some i)=true):
  OpOk P ops ms c V A G i ⟨some d,.fieldAddr S (.tmp s) f,ty,pos,aL,none⟩:=by
 obtain⟨⟨k2,hk2⟩,h1⟩:=nH ha
 obtain⟨⟨k,hk⟩,h3⟩:=dX hv
 exact dM k hk ho bS k2 hk2 h1 h3 fC (.inl ⟨hs.symm,rfl⟩) hu hno hf
variable {pq:Al}
theorem vm (ha:Il i A=some al) (ha0:Kc ms i s A=some pq) (hv:lO al.var V=some v) (hv0:pq.var=al.var) (ho:bA ms i v=true) (bS:v.kd=.ptr)
  (hf:∀b w,(Instr.fieldAt S (.pointer (some ⟨b,pq.off,none⟩)) f).run P w=.ok (.pointer (some ⟨b,off,none⟩)) w) (fC:al.off=off) (hcd:pq.cond) (hu:(A.filter λq=>q.tag==some i).length=1) (hno:(G.all λe=>e.tag != some i)=true):
  OpOk P ops ms c V A G i ⟨some d,.fieldAddr S (.tmp s) f,ty,pos,aL,none⟩:=by
 obtain⟨⟨k2,hk2⟩,h1⟩:=nH ha
 obtain⟨⟨k3,hk3⟩,h4,h5⟩:=qY ha0
 obtain⟨⟨k,hk⟩,h3⟩:=dX hv
 exact dM k hk ho bS k2 hk2 h1 h3 fC (.inr ⟨k3,pq,hk3,h4,hv0.trans h3,rfl,h5,hcd⟩) hu hno hf
theorem CK (ha:Il i A=some al) (hv:lO al.var V=some v) (ho:bA ms i v=true) (bS:v.kd=.ptr) (hs:v.slot=s) (Pk:Has ms G i y (pI n))
  (hf:∀b w,(Instr.indexAt S (.pointer (some ⟨b,0,none⟩)) (.int .i64 n)).run P w=.ok (.pointer (some ⟨b,off,none⟩)) w) (fC:al.off=off) (hu:(A.filter λq=>q.tag==some i).length=1) (hno:(G.all λe=>e.tag != some i)=true):
  OpOk P ops ms c V A G i ⟨some d,.indexAddr S (.tmp s) y,ty,pos,aL,none⟩:=by
 obtain⟨⟨k2,hk2⟩,h1⟩:=nH ha
 obtain⟨⟨k,hk⟩,h3⟩:=dX hv
 exact zf k hk ho bS k2 hk2 h1 h3 fC (.inl ⟨hs.symm,rfl⟩) hu hno Pk hf
theorem vv (ha:Il i A=some al) (ha0:Kc ms i s A=some pq) (hv:lO al.var V=some v) (hv0:pq.var=al.var) (ho:bA ms i v=true) (bS:v.kd=.ptr) (Pk:Has ms G i y (pI n))
  (hf:∀b w,(Instr.indexAt S (.pointer (some ⟨b,pq.off,none⟩)) (.int .i64 n)).run P w=.ok (.pointer (some ⟨b,off,none⟩)) w) (fC:al.off=off) (hcd:pq.cond) (hu:(A.filter λq=>q.tag==some i).length=1) (hno:(G.all λe=>e.tag != some i)=true):
  OpOk P ops ms c V A G i ⟨some d,.indexAddr S (.tmp s) y,ty,pos,aL,none⟩:=by
 obtain⟨⟨k2,hk2⟩,h1⟩:=nH ha
 obtain⟨⟨k3,hk3⟩,h4,h5⟩:=qY ha0
 obtain⟨⟨k,hk⟩,h3⟩:=dX hv
 exact zf k hk ho bS k2 hk2 h1 h3 fC (.inr ⟨k3,pq,hk3,h4,hv0.trans h3,rfl,h5,hcd⟩) hu hno Pk hf
variable {r:List (Nat×Rel)}
theorem gl (hv:Nk ms i s V=some v) (bS:v.kd=.ptr) (h:Has ms G i y p) (hm:NL i v.st=some (pv p,r)) (hr:(r.all λr=>(ms.getD r.1 0).testBit i)=true) (ht:Ty P T v.agg v.n) (hf:Fits v.n v.agg p)
  (nU:(V.all λy=>y.id==v.id||y.st.all λq=>q.1 != i)=true):OpOk P ops ms c V A G i ⟨none,.store T (.tmp s) y,ty,pos,aL,none⟩:=by
 obtain⟨⟨k,hk⟩,h1,h2⟩:=rI hv
 obtain⟨m,h3,h4⟩:=xg hm
 exact oC k hk h1 h2 bS m h3 (by rw[h4]; exact hr) nU ht h hf
theorem vw {n:Nat} {q0:Pred} (ha:Kc ms i s A=some al) (hv:lO al.var V=some v) (ho:bA ms i v=true) (bS:v.kd=.ptr) (hst:(v.st.all λq=>q.1==i||((ms.getD i 0).testBit q.1||(ms.getD q.1 0).testBit i))=true)
  (hc:cont (λj=>(ms.getD i 0).testBit j) v.c0 v.st=pv q0) (h:Has ms G i y p) (ht:Ty P T agg n) (hq:∀w cs ds,cs.length=v.n->ds.length=n->q0 w (au v.agg cs)->p w (au agg ds)->q w (au v.agg (cs.take al.off++ds++cs.drop (al.off+n))))
  (hm:NL i v.st=some (pv q,r)) (hr:(r.all λr=>(ms.getD r.1 0).testBit i)=true) (hcd:al.cond) (hf:Fits n agg p) (hlen:decide (al.off+n<=v.n)=true)
  (nU:(V.all λy=>y.id==v.id||y.st.all λq=>q.1 != i)=true):OpOk P ops ms c V A G i ⟨none,.store T (.tmp s) y,ty,pos,aL,none⟩:=by
 obtain⟨⟨k2,hk2⟩,h1,h2⟩:=qY ha
 obtain⟨⟨k,hk⟩,h3⟩:=dX hv
 obtain⟨m,h5,h6⟩:=xg hm
 exact Bn k hk k2 hk2 h1 h3 rfl h2 hcd ho bS hst m h5 (by rw[h6]; exact hr) nU ht hlen hc h hf hq
theorem Ju (l:List Zl) (hv:C7 i V=some v) (hT:v.T=T) (bS:v.kd=.ptr) (hc:v.c0=pv (pS (l.map Zl.fd))) (Dv:v.agg=true)
  (hz:∀w,(zeroValue T).run P w=.ok (.agg (l.flatMap Zl.cs).toArray) w) (hl:(l.flatMap Zl.cs).length=v.n) (hst:((v.st.all λq=>(ms.getD q.1 0).testBit i)&&V.all λy=>y.dead != some i)=true) (hno:(G.all λe=>e.tag != some i)=true) (fC:(A.all λp=>p.var != v.id||p.tag.any λj=>(ms.getD j 0).testBit i)=true):
  OpOk P ops ms c V A G i ⟨some d,.alloc T,ty,pos,aL,none⟩:=by
 obtain⟨⟨k,hk⟩,hb⟩:=iZ hv
 exact lC k hk hb hst hno fC hT bS hz rfl hl (BS l) hc λw=>by rw[Dv]; exact BR l w
theorem Gk (l:Zl) {z:Value} (hl:l.cs=[z]) (hv:C7 i V=some v) (hT:v.T=T) (bS:v.kd=.ptr) (hc:v.c0=pv l.fd.p) (Dv:v.agg=false) (hn:v.n=1)
  (hz:∀w,(zeroValue T).run P w=.ok z w) (AR:z.cells=[z].toArray) (hp:∀w,l.fd.p w z) (hst:((v.st.all λq=>(ms.getD q.1 0).testBit i)&&V.all λy=>y.dead != some i)=true) (hno:(G.all λe=>e.tag != some i)=true) (fC:(A.all λp=>p.var != v.id||p.tag.any λj=>(ms.getD j 0).testBit i)=true):
  OpOk P ops ms c V A G i ⟨some d,.alloc T,ty,pos,aL,none⟩:=by
 obtain⟨⟨k,hk⟩,hb⟩:=iZ hv
 exact lC k hk hb hst hno fC hT bS hz AR hn.symm (λu hu=>BS [l] u (by simpa [hl] using hu)) hc λw=>by rw[Dv]; exact hp w
theorem KY (hv:C7 i V=some v) (hT:v.T=T) (bS:v.kd=.ptr) (h:Has ms G i x p) (hc:v.c0=pv p) (hf:Fits v.n v.agg p) (hst:((v.st.all λq=>(ms.getD q.1 0).testBit i)&&V.all λy=>y.dead != some i)=true) (hno:(G.all λe=>e.tag != some i)=true) (fC:(A.all λp=>p.var != v.id||p.tag.any λj=>(ms.getD j 0).testBit i)=true):
  OpOk P ops ms c V A G i ⟨some d,.box T x,ty,pos,aL,none⟩:=by
 obtain⟨⟨k,hk⟩,hb⟩:=iZ hv
 exact Bj k hk hb hst hno fC hT bS h hf hc
variable {j:Nat} {b cb:Bool}
theorem Tg {op:Op} {dst:Option Nat} (hg:kA j G=some (pB cb)) (h:cb=b->OpOk P ops ms c V A G i ⟨dst,op,ty,pos,aL,none⟩) (hA:¬cb=b->ud A i) (hp:¬cb=b->Post G i (bp undef))
  (hj:(G.all λe=>e.tag != some j||((ms.getD i 0).testBit j&&iQ ms i e.till))=true) (hb:(V.all λx=>(x.born != some i&&x.dead != some i)&&x.st.all λq=>q.1 != i)=true):OpOk P ops ms c V A G i ⟨dst,op,ty,pos,aL,some (j,b)⟩:=by
 obtain⟨s,f,k,hk⟩:=post hg
 have:=List.all_eq_true.1 hj _ (List.mem_of_getElem? hk)
 exact PZ k hk (by simpa using this) h hb hA hp
theorem PW {φ:Prop} [Decidable φ] {op:Op} {dst:Option Nat} (hg:kA j G=some (qb φ (pB cb))) (h:φ/\cb=b->OpOk P ops ms c V A G i ⟨dst,op,ty,pos,aL,none⟩) (hA:¬(φ/\cb=b)->ud A i) (hp:¬(φ/\cb=b)->Post G i (bp undef))
  (hj:(G.all λe=>e.tag != some j||((ms.getD i 0).testBit j&&iQ ms i e.till))=true) (hb:(V.all λx=>(x.born != some i&&x.dead != some i)&&x.st.all λq=>q.1 != i)=true):OpOk P ops ms c V A G i ⟨dst,op,ty,pos,aL,some (j,b)⟩:=by
 obtain⟨s,f,k,hk⟩:=post hg
 have:=List.all_eq_true.1 hj _ (List.mem_of_getElem? hk)
 exact ML k hk (by simpa using this) h hb hA hp
end
end Wx

namespace Wx
open Go Go.RowKit
def Qc (P:Program) (E:TypeId) (n:Nat):Bool:=match P.info? E with
 |some i=>Nat.beq i.size n
 |none=>false
variable {P:Program} {n:Nat}
theorem rG {E:TypeId} (h:Qc P E n=true) (w:World):(Go.sizeOf E).run P w=.ok n w:=by
 unfold Qc at h
 split at h
 ·rename_i i hi
  have:=Nat.eq_of_beq_eq_true h
  subst this
  simp[Go.sizeOf,typeInfo,hi]
 ·cases h
def He (P:Program) (T:TypeId) (ag:Bool) (n:Nat):Bool:=Qc P T n&&((ag||Nat.beq n 1)&&match P.underlying T with
 |some (.struct _)|some (.array _ _)=>ag
 |some _=>!ag
 |none=>false)
variable {T:TypeId} {ag:Bool}
theorem bE (h:He P T ag n=true):Ty P T ag n:=by
 unfold He at h
 rw[Bool.and_eq_true,Bool.and_eq_true]at h
 obtain⟨h1,h2,h3⟩:=h
 refine⟨λw=>?_,rG h1,λe=>?_⟩
 ·cases hu:P.underlying T with
  |none=>rw[hu]at h3; cases h3
  |some u=>
   rw[hu]at h3
   have hr:=run_underlying hu w
   simp only[isAgg,Sem.run_bind,hr,Result.andThen_ok]
   cases u<;>simp at h3<;>subst h3<;>rfl
 ·subst e; rw[Bool.false_or]at h2; exact Nat.eq_of_beq_eq_true h2
class BZ (P:Program) (T:TypeId) (ag:outParam Bool) (n:outParam Nat):Prop where
 ok:Ty P T ag n
def JP (P:Program) (T:TypeId) (sz:Nat):Bool:=match P.underlying T with
 |some (.slice E)=>Qc P E sz
 |_=>false
variable {sz:Nat}
theorem qf (h:JP P T sz=true):∃E,pD P T E sz:=by
 unfold JP at h
 split at h
 ·rename_i E hE; exact⟨E,hE,rG h⟩
 ·cases h
def Jb (P:Program) (T:TypeId):Bool:=match P.underlying T with
 |some (.slice _)=>true
 |_=>false
theorem Cu (h:Jb P T=true):∃E,P.underlying T=some (.slice E):=by
 unfold Jb at h
 split at h
 ·rename_i E hE; exact⟨E,hE⟩
 ·cases h
def Nu (P:Program) (T:TypeId) (len sz:Nat):Bool:=match P.underlying T with
 |some (.array n E)=>Nat.beq n len&&Qc P E sz
 |_=>false
theorem xb {len:Nat} (h:Nu P T len sz=true) {b off:Nat} {m:Int} (h0:0<=m) (h1:m<len) (w:World):(Instr.indexAt T (.pointer (some ⟨b,off,none⟩)) (.int .i64 m)).run P w=.ok (.pointer (some ⟨b,off+m.toNat*sz,none⟩)) w:=by
 unfold Nu at h
 split at h
 ·rename_i n E hE
  rw[Bool.and_eq_true]at h
  have e:=Nat.eq_of_beq_eq_true h.1
  subst e
  have hu:(underlying T).run P w=.ok (.array n E) w:=run_underlying hE w
  simp only[Instr.indexAt,asIntOf,pure_bind,Sem.run_bind,hu,Result.andThen_ok,Instr.sureAddr]
  rw[if_pos ⟨h0,h1⟩]
  simp only[Sem.run_bind,rG h.2,Result.andThen_ok,Sem.run_pure,Addr.add_mid]
 ·cases h
variable {p:Pred}
theorem uk (h:Fits n ag p:=by
 first
 |exact nQ
 |exact wv
 |exact fits_int _
 |exact fits_bool _
 |exact kU _
 |exact yo _
 |exact sA _ _ _
 |exact fk
 |exact yq _
 |exact rq (λ_=>nQ) (by first|rfl|omega|(simp; omega))
 |exact rq (λ_=>wv) (by first|rfl|omega|(simp; omega))
 |exact pL (by repeat' (first|exact trivial|exact nQ|exact wv|exact fits_int _|exact fits_bool _|exact sA _ _ _|exact fk|exact yq _|refine⟨?_,?_⟩)) rfl):Fits n ag p:=h
theorem CI (h:aA p:=by
 first
 |exact nk
 |exact nj
 |exact bO _
 |exact sY λ_=>nk
 |exact sY λ_=>nj
 |exact dc _
 |exact lA _
 |exact gV nk (bO _)
 |exact gV nj (bO _)
 |exact gV (dc _) (bO _)
 |exact gV (lA _) (bO _)):aA p:=h
variable {q:Pred}
theorem mQ (h:∀w v,p w v->q w v:=by
 first
 |exactλ_ _ h=>h
 |exact zj (by omega)
 |exact CR (by omega)
 |exact po.pV (by repeat' (first|exact po.z|refine po.c (by omega) ?_))
 |exactλ_ _ h=>h
 |exactλ_ _ h=>h.2):∀w v,p w v->q w v:=h
variable {i:Nat}
theorem Has.Tp {ms:List Nat} {G:List aV} {x:Operand} {φ ψ:Prop} (h:Has ms G i x (qb (φ/\ψ) q)) (hφ:φ):Has ms G i x (qb ψ q):=
 h.imp λ_ _ k=>⟨λhψ=>k.1 ⟨hφ,hψ⟩,λhψ=>k.2 λhh=>hψ hh.2⟩
theorem TV {A:List Al} {al:Al} (h:Il i A=some al) (hn:¬al.cond) (hu:(A.filter λq=>q.tag==some i).length=1):ud A i:=by
 obtain⟨⟨k,hk⟩,ht⟩:=nH h
 exact .at_ k hk ht hu hn
def tm:Nat->Nat->List Nat
 |0,_=>[]
 |n+1,k=>k::tm n (2*k+1)
section
variable {P:Program} {ops:Array Oper} {ms:List Nat} {c:cM} {V:List Vr} {A:List Al} {G:List aV} {i:Nat}{d:Nat} {x y z:Operand} {ty:TypeId} {pos:String} {aL:Array Edge}{T:TypeId} {sz n:Nat} {agg:Bool} {f:Nat->Pred}
theorem K8 (h:Has ms G i x (bK sz agg n f)) (hp:Post G i (pI (n:Int))) (ht:Jb P T=true):
  OpOk P ops ms c V A G i ⟨some d,.call ⟨.builtin .len,#[x],#[T]⟩,ty,pos,aL,none⟩:=(Cu ht).elim λ_ hE=>MM h hE hp
theorem fR {m:Int} (k:Nat) (h:Has ms G i x (bK sz agg n f)) (hy:Has ms G i y (pI m)) (hm:m=(k:Int)) (hp:Post G i (dD sz agg (f k))) (hk:k<n) (ht:JP P T sz=true) (hA:(A.all λq=>q.tag != some i)=true):
  OpOk P ops ms c V A G i ⟨some d,.indexAddr T x y,ty,pos,aL,none⟩:=by
 obtain⟨E,hE⟩:=qf ht
 subst hm
 exact zg h hy hE (by omega) (by omega) hA (by rw[Int.toNat_natCast]; exact hp)
theorem fq {p:Pred} (h:Has ms G i x (dD sz agg p)) (hp:Post G i p) (ht:He P T agg sz=true) (hfit:Fits sz agg p):OpOk P ops ms c V A G i ⟨some d,.load T x,ty,pos,aL,none⟩:=
 Gr h (bE ht) hfit hp
variable {cb b2:Bool}
theorem KX (h:Has ms G i x (pB cb)) (hy:Has ms G i y (qb (cb=true) (pB b2))) (hz:Has ms G i z (pB false)) (hp:Post G i (pB (cb&&b2))):OpOk P ops ms c V A G i ⟨some d,.pick x y z,ty,pos,aL,none⟩:=
 CO h (λe=>(hy.NJ e).imp λ_ _ k=>by rw[e]; exact k) (λe=>hz.imp λ_ _ k=>by rw[e]; exact k) hp
theorem PX (h:Has ms G i x (pB cb)) (hy:Has ms G i y (pB true)) (hz:Has ms G i z (qb (cb=false) (pB b2))) (hp:Post G i (pB (cb||b2))):OpOk P ops ms c V A G i ⟨some d,.pick x y z,ty,pos,aL,none⟩:=
 CO h (λe=>hy.imp λ_ _ k=>by rw[e]; exact k) (λe=>(hz.NJ e).imp λ_ _ k=>by rw[e]; exact k) hp
end
end Wx

namespace Wx
open Go Go.RowKit
section
variable {P:Program} {ops:Array Oper} {ms:List Nat} {c:cM} {V:List Vr} {A:List Al} {G:List aV} {i:Nat}{d:Nat} {x y z:Operand} {ty:TypeId} {pos:String} {aL:Array Edge}{p:Pred}
theorem hs (h:Has ms G i x p:=by
 first
 |exact look rfl
 |exact .const _
 |exact .func _):Has ms G i x p:=h
theorem hg (h:Has ms G i x p:=by
 first
 |exact .const _
 |exact .func _
 |exact Has.NJ (look rfl) (by assumption)
 |exact Has.NJ (look rfl) (And.left (by assumption))
 |exact Has.Tp (look rfl) (by assumption)
 |exact look rfl):Has ms G i x p:=h
variable {φ:Prop}
theorem pg (hc:φ) (h:kA i G=some (qb φ p)):Post G i p:=W8 hc h
variable {o:Oper}
theorem mv (h:OpOk P ops ms c V A G i o:=by
 first
 |exact cJ hs (pt rfl)
 |exact dU hs (pt rfl)):OpOk P ops ms c V A G i o:=h
theorem gZ (hc:φ) {o:Oper} (h:φ->OpOk P ops ms c V A G i o:=by
 intro hc
 first
 |exact cJ hg (pg hc rfl)
 |exact dU hg (pg hc rfl)):OpOk P ops ms c V A G i o:=h hc
theorem ld (h:OpOk P ops ms c V A G i o:=by
 first
 |exact o_load rfl rfl rfl rfl (pt rfl) (bE (by kernel_rfl))
 |exact lB rfl rfl rfl rfl (by kernel_rfl) rfl BZ.ok (ou rfl) trivial (pt rfl) rfl
 |exact fq hs (pt rfl) (by kernel_rfl) uk):OpOk P ops ms c V A G i o:=h
theorem dQ (hc:φ) {o:Oper} (h:φ->OpOk P ops ms c V A G i o:=by
 intro hc
 first
 |exact o_load rfl rfl rfl rfl (pg hc rfl) (bE (by kernel_rfl))
 |exact lB rfl rfl rfl rfl (by kernel_rfl) rfl BZ.ok (ou rfl) (by first|exact trivial|exact hc) (pg hc rfl) rfl
 |exact fq hg (pg hc rfl) (by kernel_rfl) uk):OpOk P ops ms c V A G i o:=h hc
theorem bn (h:OpOk P ops ms c V A G i o:=by
 first
 |exact La hs hs (pt rfl)
 |exact K9 hs hs (pt rfl)
 |exact K7 hs hs (pt rfl)
 |exact K5 hs hs (pt rfl)
 |exact KZ hs hs (pt rfl)
 |exact Lc hs hs (pt rfl)
 |exact KW hs hs (pt rfl)
 |exact Ld hs hs (pt rfl)
 |exact Lb hs hs (pt rfl)):OpOk P ops ms c V A G i o:=h
theorem mA (hc:φ) {o:Oper} (h:φ->OpOk P ops ms c V A G i o:=by
 intro hc
 first
 |exact La hg hg (pg hc rfl)
 |exact K9 hg hg (pg hc rfl)
 |exact K7 hg hg (pg hc rfl)
 |exact K5 hg hg (pg hc rfl)
 |exact KZ hg hg (pg hc rfl)
 |exact Lc hg hg (pg hc rfl)
 |exact KW hg hg (pg hc rfl)
 |exact Ld hg hg (pg hc rfl)
 |exact Lb hg hg (pg hc rfl)):OpOk P ops ms c V A G i o:=h hc
theorem nt (h:OpOk P ops ms c V A G i o:=by
 first
 |exact Gt hs (pt rfl)):OpOk P ops ms c V A G i o:=h
theorem IJ (hc:φ) {o:Oper} (h:φ->OpOk P ops ms c V A G i o:=by
 intro hc
 first
 |exact Gt hg (pg hc rfl)):OpOk P ops ms c V A G i o:=h hc
theorem ln (h:OpOk P ops ms c V A G i o:=by
 first
 |exact K8 hs (pt rfl) (by kernel_rfl)):OpOk P ops ms c V A G i o:=h
theorem T9 (hc:φ) {o:Oper} (h:φ->OpOk P ops ms c V A G i o:=by
 intro hc
 first
 |exact K8 hg (pg hc rfl) (by kernel_rfl)):OpOk P ops ms c V A G i o:=h hc
theorem fa (h:OpOk P ops ms c V A G i o:=by
 first
 |exact CJ rfl rfl rfl rfl rfl (λ_ _=>by kernel_rfl) rfl (by kernel_rfl) (by kernel_rfl)
 |exact vm rfl rfl rfl rfl rfl rfl (λ_ _=>by kernel_rfl) rfl trivial (by kernel_rfl) (by kernel_rfl)
 |exact CK rfl rfl rfl rfl rfl hs (λ_ _=>by kernel_rfl) rfl (by kernel_rfl) (by kernel_rfl)
 |exact vv rfl rfl rfl rfl rfl rfl hs (λ_ _=>by kernel_rfl) rfl trivial (by kernel_rfl) (by kernel_rfl)):OpOk P ops ms c V A G i o:=h
theorem mE (hc:φ) {o:Oper} (h:φ->OpOk P ops ms c V A G i o:=by
 intro hc
 first
 |exact CJ rfl rfl rfl rfl rfl (λ_ _=>by kernel_rfl) rfl (by kernel_rfl) (by kernel_rfl)
 |exact vm rfl rfl rfl rfl rfl rfl (λ_ _=>by kernel_rfl) rfl (by first|exact trivial|exact hc) (by kernel_rfl) (by kernel_rfl)
 |exact CK rfl rfl rfl rfl rfl hg (λ_ _=>by kernel_rfl) rfl (by kernel_rfl) (by kernel_rfl)
 |exact vv rfl rfl rfl rfl rfl rfl hg (λ_ _=>by kernel_rfl) rfl (by first|exact trivial|exact hc) (by kernel_rfl) (by kernel_rfl)):OpOk P ops ms c V A G i o:=h hc
theorem ix (h:OpOk P ops ms c V A G i o:=by
 first
 |exact fR _ hs hs rfl (pt rfl) (by omega) (by kernel_rfl) (by kernel_rfl)
 |exact fR _ hs hs (Int.toNat_of_nonneg (by omega)).symm (pt rfl) (by omega) (by kernel_rfl) (by kernel_rfl)):OpOk P ops ms c V A G i o:=h
theorem Ey (hc:φ) {o:Oper} (h:φ->OpOk P ops ms c V A G i o:=by
 intro hc
 first
 |exact fR _ hg hg rfl (pg hc rfl) (by omega) (by kernel_rfl) (by kernel_rfl)
 |exact fR _ hg hg (Int.toNat_of_nonneg (by omega)).symm (pg hc rfl) (by omega) (by kernel_rfl) (by kernel_rfl)):OpOk P ops ms c V A G i o:=h hc
theorem ext (h:OpOk P ops ms c V A G i o:=by
 first
 |exact iB hs Ov (pt rfl)
 |exact iB hs Ow (pt rfl)
 |exact iB hs Ox (pt rfl)
 |exact iB hs Oy (pt rfl)
 |exact iB hs Oz (pt rfl)):OpOk P ops ms c V A G i o:=h
theorem pk (h:OpOk P ops ms c V A G i o:=by
 first
 |exact KX hs hs hs (pt rfl)
 |exact PX hs hs hs (pt rfl)):OpOk P ops ms c V A G i o:=h
theorem LX (hc:φ) {o:Oper} (h:φ->OpOk P ops ms c V A G i o:=by
 intro hc
 first
 |exact KX hg hg hg (pg hc rfl)
 |exact PX hg hg hg (pg hc rfl)):OpOk P ops ms c V A G i o:=h hc
theorem kI (h:OpOk P ops ms c V A G i o:=by
 first
 |exact gl rfl rfl hs rfl rfl (bE (by kernel_rfl)) uk (by kernel_rfl)
 |exact vw rfl rfl rfl rfl (by kernel_rfl) rfl hs BZ.ok (Em rfl) rfl (by kernel_rfl) trivial uk rfl (by kernel_rfl)
 |exact vw rfl rfl rfl rfl (by kernel_rfl) rfl hs BZ.ok (En rfl) rfl (by kernel_rfl) trivial uk rfl (by kernel_rfl)):OpOk P ops ms c V A G i o:=h
theorem bo (h:OpOk P ops ms c V A G i o:=by
 first
 |exact KY rfl rfl rfl hs rfl uk (by kernel_rfl) (by kernel_rfl) (by kernel_rfl)):OpOk P ops ms c V A G i o:=h
variable {j:Nat} {b cb:Bool}
theorem gd {op:Op} {dst:Option Nat} (h:cb=b->OpOk P ops ms c V A G i ⟨dst,op,ty,pos,aL,none⟩) (hq:kA j G=some (pB cb):=by exact rfl) (hA:¬cb=b->ud A i:=by intro hn; first|exact .none rfl|exact TV rfl hn (by kernel_rfl)) (hp:¬cb=b->Post G i (bp undef):=by intro hn; first|exact US hn rfl|exact .none rfl)
  (hj:(G.all λe=>e.tag != some j||((ms.getD i 0).testBit j&&iQ ms i e.till))=true:=by kernel_rfl) (hb:(V.all λx=>(x.born != some i&&x.dead != some i)&&x.st.all λq=>q.1 != i)=true:=by kernel_rfl):OpOk P ops ms c V A G i ⟨dst,op,ty,pos,aL,some (j,b)⟩:=Tg hq h hA hp hj hb
theorem xp [Decidable φ] {op:Op} {dst:Option Nat} (h:φ/\cb=b->OpOk P ops ms c V A G i ⟨dst,op,ty,pos,aL,none⟩) (hq:kA j G=some (qb φ (pB cb)):=by exact rfl) (hA:¬(φ/\cb=b)->ud A i:=by intro hn; first|exact .none rfl|exact TV rfl hn (by kernel_rfl)) (hp:¬(φ/\cb=b)->Post G i (bp undef):=by intro hn; first|exact US hn rfl|exact .none rfl)
  (hj:(G.all λe=>e.tag != some j||((ms.getD i 0).testBit j&&iQ ms i e.till))=true:=by kernel_rfl) (hb:(V.all λx=>(x.born != some i&&x.dead != some i)&&x.st.all λq=>q.1 != i)=true:=by kernel_rfl):OpOk P ops ms c V A G i ⟨dst,op,ty,pos,aL,some (j,b)⟩:=PW hq h hA hp hj hb
variable {T:TypeId} {v:Vr}
theorem pY (l:List Zl) (hv:C7 i V=some v:=by exact rfl) (hT:v.T=T:=by exact rfl) (bS:v.kd=.ptr:=by exact rfl) (hc:v.c0=pv (pS (l.map Zl.fd)):=by exact rfl) (Dv:v.agg=true:=by exact rfl)
  (hz:∀w,(zeroValue T).run P w=.ok (.agg (l.flatMap Zl.cs).toArray) w:=by exactλ_=>by kernel_rfl) (hl:(l.flatMap Zl.cs).length=v.n:=by exact rfl) (hst:((v.st.all λq=>(ms.getD q.1 0).testBit i)&&V.all λy=>y.dead != some i)=true:=by kernel_rfl) (hno:(G.all λe=>e.tag != some i)=true:=by kernel_rfl) (fC:(A.all λp=>p.var != v.id||p.tag.any λj=>(ms.getD j 0).testBit i)=true:=by kernel_rfl):
  OpOk P ops ms c V A G i ⟨some d,.alloc T,ty,pos,aL,none⟩:=Ju l hv hT bS hc Dv hz hl hst hno fC
theorem A7 (l:Zl) {z:Value} (hl:l.cs=[z]:=by exact rfl) (hv:C7 i V=some v:=by exact rfl) (hT:v.T=T:=by exact rfl) (bS:v.kd=.ptr:=by exact rfl) (hc:v.c0=pv l.fd.p:=by exact rfl) (Dv:v.agg=false:=by exact rfl) (hn:v.n=1:=by exact rfl)
  (hz:∀w,(zeroValue T).run P w=.ok z w:=by exactλ_=>by kernel_rfl) (AR:z.cells=[z].toArray:=by exact rfl) (hp:∀w,l.fd.p w z:=by exactλ_=>rfl) (hst:((v.st.all λq=>(ms.getD q.1 0).testBit i)&&V.all λy=>y.dead != some i)=true:=by kernel_rfl) (hno:(G.all λe=>e.tag != some i)=true:=by kernel_rfl) (fC:(A.all λp=>p.var != v.id||p.tag.any λj=>(ms.getD j 0).testBit i)=true:=by kernel_rfl):
  OpOk P ops ms c V A G i ⟨some d,.alloc T,ty,pos,aL,none⟩:=Gk l hl hv hT bS hc Dv hn hz AR hp hst hno fC
theorem fP {S f sz:Nat} {fs:List Fd} {q:Pred} (off n:Nat) (ag:Bool) (h:Has ms G i x (dD sz true (pS fs)):=by exact hs) (hq:Gl ag (xh fs off n)=some q:=by exact rfl) (hp:Post G i (dD n ag q):=by exact pt rfl) (hn:n≠0:=by decide) (hf:∀b o w,(Instr.fieldAt S (.pointer (some ⟨b,o,none⟩)) f).run P w=.ok (.pointer (some ⟨b,o+off,none⟩)) w:=by exactλ_ _ _=>by kernel_rfl)
  (hA:(A.all λq=>q.tag != some i)=true:=by kernel_rfl):OpOk P ops ms c V A G i ⟨some d,.fieldAddr S x f,ty,pos,aL,none⟩:=
 cq rfl rfl rfl (.inr hA) hp λL β a w hI hd=>by
  have hr:=h.spec hI hd
  obtain⟨b,o,cs,e,_⟩:=hr.out
  refine⟨.pointer (some ⟨b,o+off,none⟩),w,?_,Below.refl _ _,λw' he=>?_⟩
  ·show(do pure (Next.value (<-Instr.fieldAt S (a.eval x) f))).run P w=_
   rw[e,Sem.run_bind,hf]
   rfl
  ·obtain⟨b',o',cs',e',hl,hc,hp'⟩:=hr w' he
   rw[e]at e'
   injection e' with e'
   injection e' with e'
   injection e' with e1 e2
   subst e1 e2
   obtain⟨ds,e3,hds⟩:=hp'
   have e4:=cg (show au true cs'=au true ds from e3)
   subst e4
   cases hs:xh fs off n with
   |none=>rw[hs]at hq; cases ag<;>cases hq
   |some l=>
    rw[hs]at hq
    have hk:=C4 hs hds
    have hlen:=hk.2
    rw[if_neg hn]at hlen
    refine⟨b,o+off,(cs'.drop off).take n,rfl,by rw[List.length_take,List.length_drop]; omega,λj u hj=>?_,CM hq hk.1⟩
    rw[List.getElem?_take]at hj
    split at hj
    ·rw[List.getElem?_drop]at hj
     rw[Nat.add_assoc]
     exact hc _ _ hj
    ·cases hj
variable {f:FuncId} {ts:Array TypeId} {p1 q1:Pred}
theorem LI (gO:φ->∀w v1,p1 w v1->Calls P f #[v1] w (jb p w)) (h1:Has ms G i x q1:=by exact hs) (c1:∀w v,q1 w v->p1 w v:=by exact mQ) (hp:Post G i p:=by exact pt rfl) (hφ:φ:=by first|omega|trivial) (hn:aA p:=by exact CI) (hf:aN P f:=by exactλ_ _=>by kernel_rfl):
  OpOk P ops ms c V A G i ⟨some d,.call ⟨.value (.func f),#[x],ts⟩,ty,pos,aL,none⟩:=oB hf hn (h1.imp c1) hp (gO hφ)
variable {p2 q2:Pred}
theorem Ht (gO:φ->∀w v1 v2,p1 w v1->p2 w v2->Calls P f #[v1,v2] w (jb p w)) (h1:Has ms G i x q1:=by exact hs) (c1:∀w v,q1 w v->p1 w v:=by exact mQ) (h2:Has ms G i y q2:=by exact hs) (c2:∀w v,q2 w v->p2 w v:=by exact mQ) (hp:Post G i p:=by exact pt rfl) (hφ:φ:=by first|omega|trivial) (hn:aA p:=by exact CI) (hf:aN P f:=by exactλ_ _=>by kernel_rfl):
  OpOk P ops ms c V A G i ⟨some d,.call ⟨.value (.func f),#[x,y],ts⟩,ty,pos,aL,none⟩:=gB hf hn (h1.imp c1) (h2.imp c2) hp (gO hφ)
theorem qZ (gO:φ->∀M w v1,cR M w->aM M (λw=>p1 w v1) w->Calls P f #[v1] w (bD M p w)) (h1:Has ms G i x q1:=by exact hs) (c1:∀w v,q1 w v->p1 w v:=by exact mQ) (hp:Post G i p:=by exact pt rfl) (hφ:φ:=by first|omega|trivial) (hf:aN P f:=by exactλ_ _=>by kernel_rfl):
  OpOk P ops ms c V A G i ⟨some d,.call ⟨.value (.func f),#[x],ts⟩,ty,pos,aL,none⟩:=D1 hf (h1.imp c1) hp (gO hφ)
theorem wj (gO:φ->∀M w v1 v2,cR M w->aM M (λw=>p1 w v1) w->aM M (λw=>p2 w v2) w->Calls P f #[v1,v2] w (bD M p w)) (h1:Has ms G i x q1:=by exact hs) (c1:∀w v,q1 w v->p1 w v:=by exact mQ) (h2:Has ms G i y q2:=by exact hs) (c2:∀w v,q2 w v->p2 w v:=by exact mQ) (hp:Post G i p:=by exact pt rfl) (hφ:φ:=by first|omega|trivial) (hf:aN P f:=by exactλ_ _=>by kernel_rfl):
  OpOk P ops ms c V A G i ⟨some d,.call ⟨.value (.func f),#[x,y],ts⟩,ty,pos,aL,none⟩:=vB hf (h1.imp c1) (h2.imp c2) hp (gO hφ)
end
section
variable {P:Program} {Q:Exit->Act->World->Prop} {c:cM} {V:List Vr} {G:List aV} {a:Act} {w:World}
end
end Wx
