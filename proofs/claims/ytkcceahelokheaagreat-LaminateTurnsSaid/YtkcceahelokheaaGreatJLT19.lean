import Derived.Test.YtkcceahelokheaaGreatJLT18
namespace Wx
open Go Go.RowKit
def Kn (ms:List Nat) (i s:Nat):List bz->Option Pred
 |[]=>none
 |⟨t,f,s',p⟩::r=>match Nat.beq s' s&&(xO ms i t&&kY ms i f)with
  |true=>some p
  |false=>Kn ms i s r
def nJ (i:Nat):List bz->Option Pred
 |[]=>none
 |⟨none,_,_,_⟩::r=>nJ i r
 |⟨some j,_,_,p⟩::r=>match Nat.beq j i with
  |true=>some p
  |false=>nJ i r
def kT (s:Nat):List bz->Option Pred
 |[]=>none
 |⟨none,none,s',p⟩::r=>match Nat.beq s' s with
  |true=>some p
  |false=>kT s r
 |_::r=>kT s r
def JM (ms:List Nat) (i s:Nat):List Al->Option Al
 |[]=>none
 |⟨t,s',v,o,c⟩::r=>match Nat.beq s' s&&xO ms i t with
  |true=>some ⟨t,s',v,o,c⟩
  |false=>JM ms i s r
def NW (i:Nat):List Al->Option Al
 |[]=>none
 |⟨none,_,_,_,_⟩::r=>NW i r
 |⟨some j,s',v,o,c⟩::r=>match Nat.beq j i with
  |true=>some ⟨some j,s',v,o,c⟩
  |false=>NW i r
def mU (id:Nat):List Vr->Option Vr
 |[]=>none
 |⟨d,s',b,e,kd,T,n,ag,c0,st⟩::r=>match Nat.beq d id with
  |true=>some ⟨d,s',b,e,kd,T,n,ag,c0,st⟩
  |false=>mU id r
def QH (ms:List Nat) (i s:Nat):List Vr->Option Vr
 |[]=>none
 |⟨d,s',b,e,kd,T,n,ag,c0,st⟩::r=>match Nat.beq s' s&&(xO ms i b&&kY ms i e)with
  |true=>some ⟨d,s',b,e,kd,T,n,ag,c0,st⟩
  |false=>QH ms i s r
def AF (i:Nat):List Vr->Option Vr
 |[]=>none
 |⟨_,_,none,_,_,_,_,_,_,_⟩::r=>AF i r
 |⟨d,s',some j,e,kd,T,n,ag,c0,st⟩::r=>match Nat.beq j i with
  |true=>some ⟨d,s',some j,e,kd,T,n,ag,c0,st⟩
  |false=>AF i r
def NF (i:Nat):List (Nat×Rel)->Option (Rel×List (Nat×Rel))
 |[]=>none
 |(j,q)::r=>match Nat.beq j i with
  |true=>some (q,r)
  |false=>NF i r
theorem fk {α:Type} {x:α} {r:List α} {y:α} (h:∃k:Nat,r[k]?=some y):∃k:Nat,(x::r)[k]?=some y:=h.elim λk hk=>⟨k+1,hk⟩
variable {ms:List Nat} {i s:Nat} {p:Pred}
theorem Mk:∀{G:List bz},Kn ms i s G=some p->∃t f,(∃k:Nat,G[k]?=some ⟨t,f,s,p⟩)/\(xO ms i t&&kY ms i f)=true:=by
 intro G
 induction G with
 |nil=>intro h; cases h
 |cons e r ih=>
  intro h
  obtain⟨t,f,s',p'⟩:=e
  unfold Kn at h
  split at h
  ·rename_i hb
   rw[Bool.and_eq_true]at hb
   have h1:=Nat.eq_of_beq_eq_true hb.1
   subst h1
   cases h
   exact⟨t,f,⟨0,rfl⟩,hb.2⟩
  ·obtain⟨t,f,hk,h2⟩:=ih h
   exact⟨t,f,fk hk,h2⟩
variable {G:List bz}
theorem look (h:Kn ms i s G=some p):Has ms G i (.tmp s) p:=by
 obtain⟨t,f,⟨k,hk⟩,h2⟩:=Mk h
 exact .tmp k hk h2
theorem post:∀{G:List bz},nJ i G=some p->∃s f,∃k:Nat,G[k]?=some ⟨some i,f,s,p⟩:=by
 intro G
 induction G with
 |nil=>intro h; cases h
 |cons e r ih=>
  intro h
  obtain⟨t,f,s',p'⟩:=e
  cases t with
  |none=>obtain⟨s,f,hk⟩:=ih h; exact⟨s,f,fk hk⟩
  |some j=>
   simp only[nJ]at h
   split at h
   ·rename_i hb
    have hb:=Nat.eq_of_beq_eq_true hb
    subst hb
    cases h
    exact⟨s',f,0,rfl⟩
   ·obtain⟨s,f,hk⟩:=ih h; exact⟨s,f,fk hk⟩
theorem pt (h:nJ i G=some p):Post G i p:=by
 obtain⟨s,f,k,hk⟩:=post h
 exact .here k hk
variable {φ:Prop}
theorem ptS (hφ:φ) (h:nJ i G=some (wK φ p)):Post G i p:=by
 obtain⟨s,f,k,hk⟩:=post h
 exact .Xn hφ k hk
theorem ptN (hφ:¬φ) (h:nJ i G=some (wK φ p)):Post G i (bg undef):=by
 obtain⟨s,f,k,hk⟩:=post h
 exact .Wz hφ k hk
theorem gG:∀{G:List bz},kT s G=some p->∃k:Nat,G[k]?=some ⟨none,none,s,p⟩:=by
 intro G
 induction G with
 |nil=>intro h; cases h
 |cons e r ih=>
  intro h
  obtain⟨t,f,s',p'⟩:=e
  cases t with
  |some _=>exact fk (ih h)
  |none=>
   cases f with
   |some _=>exact fk (ih h)
   |none=>
    simp only[kT]at h
    split at h
    ·rename_i hb
     have hb:=Nat.eq_of_beq_eq_true hb
     subst hb
     cases h
     exact⟨0,rfl⟩
    ·exact fk (ih h)
variable {al:Al}
theorem xY:∀{A:List Al},JM ms i s A=some al->(∃k:Nat,A[k]?=some al)/\al.slot=s/\xO ms i al.tag=true:=by
 intro A
 induction A with
 |nil=>intro h; cases h
 |cons e r ih=>
  intro h
  obtain⟨t,s',v,o,c⟩:=e
  unfold JM at h
  split at h
  ·rename_i hb
   rw[Bool.and_eq_true]at hb
   cases h
   exact⟨⟨0,rfl⟩,Nat.eq_of_beq_eq_true hb.1,hb.2⟩
  ·obtain⟨h1,h2⟩:=ih h
   exact⟨fk h1,h2⟩
theorem uc:∀{A:List Al},NW i A=some al->(∃k:Nat,A[k]?=some al)/\al.tag=some i:=by
 intro A
 induction A with
 |nil=>intro h; cases h
 |cons e r ih=>
  intro h
  obtain⟨t,s',v,o,c⟩:=e
  cases t with
  |none=>obtain⟨h1,h2⟩:=ih h; exact⟨fk h1,h2⟩
  |some j=>
   simp only[NW]at h
   split at h
   ·rename_i hb
    have hb:=Nat.eq_of_beq_eq_true hb
    subst hb
    cases h
    exact⟨⟨0,rfl⟩,rfl⟩
   ·obtain⟨h1,h2⟩:=ih h; exact⟨fk h1,h2⟩
variable {x:Vr}
theorem fS {id:Nat}:∀{V:List Vr},mU id V=some x->(∃k:Nat,V[k]?=some x)/\id=x.id:=by
 intro V
 induction V with
 |nil=>intro h; cases h
 |cons e r ih=>
  intro h
  obtain⟨d,s',b,e,kd,T,n,ag,c0,st⟩:=e
  unfold mU at h
  split at h
  ·rename_i hb
   cases h
   exact⟨⟨0,rfl⟩,(Nat.eq_of_beq_eq_true hb).symm⟩
  ·obtain⟨h1,h2⟩:=ih h
   exact⟨fk h1,h2⟩
theorem nQ:∀{V:List Vr},QH ms i s V=some x->(∃k:Nat,V[k]?=some x)/\x.slot=s/\bE ms i x=true:=by
 intro V
 induction V with
 |nil=>intro h; cases h
 |cons e r ih=>
  intro h
  obtain⟨d,s',b,e,kd,T,n,ag,c0,st⟩:=e
  unfold QH at h
  split at h
  ·rename_i hb
   rw[Bool.and_eq_true]at hb
   cases h
   exact⟨⟨0,rfl⟩,Nat.eq_of_beq_eq_true hb.1,hb.2⟩
  ·obtain⟨h1,h2⟩:=ih h
   exact⟨fk h1,h2⟩
theorem eY:∀{V:List Vr},AF i V=some x->(∃k:Nat,V[k]?=some x)/\x.born=some i:=by
 intro V
 induction V with
 |nil=>intro h; cases h
 |cons e r ih=>
  intro h
  obtain⟨d,s',b,e,kd,T,n,ag,c0,st⟩:=e
  cases b with
  |none=>obtain⟨h1,h2⟩:=ih h; exact⟨fk h1,h2⟩
  |some j=>
   simp only[AF]at h
   split at h
   ·rename_i hb
    have hb:=Nat.eq_of_beq_eq_true hb
    subst hb
    cases h
    exact⟨⟨0,rfl⟩,rfl⟩
   ·obtain⟨h1,h2⟩:=ih h; exact⟨fk h1,h2⟩
theorem ve {q:Rel} {r:List (Nat×Rel)}:∀{st:List (Nat×Rel)},NF i st=some (q,r)->∃m,st[m]?=some (i,q)/\st.drop (m+1)=r:=by
 intro st
 induction st with
 |nil=>intro h; cases h
 |cons e l ih=>
  intro h
  obtain⟨j,q'⟩:=e
  unfold NF at h
  split at h
  ·rename_i hb
   have hb:=Nat.eq_of_beq_eq_true hb
   subst hb
   cases h
   exact⟨0,rfl,rfl⟩
  ·obtain⟨m,h1,h2⟩:=ih h
   exact⟨m+1,h1,h2⟩
section
variable {P:Program} {ops:Array Oper} {ms:List Nat} {c:fT} {V:List Vr} {A:List Al} {G:List bz} {i:Nat}{d:Nat} {x y z:Operand} {ty:TypeId} {pos:String} {aft:Array Edge}{t u:TypeId} {m n:Int} {k:IntKind}
theorem PG (h1:Has ms G i x (bg (.int k m))) (h2:Has ms G i y (bg (.int k n))) (hp:Post G i (pB (decide (m<n)))):OpOk P ops ms c V A G i ⟨some d,.binOp .lss t x y u,ty,pos,aft,none⟩:=dJ h1 h2 (λ_=>by cases k<;>rfl) hp
theorem PF (h1:Has ms G i x (bg (.int k m))) (h2:Has ms G i y (bg (.int k n))) (hp:Post G i (pB (decide (m<=n)))):OpOk P ops ms c V A G i ⟨some d,.binOp .leq t x y u,ty,pos,aft,none⟩:=dJ h1 h2 (λ_=>by cases k<;>rfl) hp
theorem PE (h1:Has ms G i x (bg (.int k m))) (h2:Has ms G i y (bg (.int k n))) (hp:Post G i (pB (decide (m>n)))):OpOk P ops ms c V A G i ⟨some d,.binOp .gtr t x y u,ty,pos,aft,none⟩:=dJ h1 h2 (λ_=>by cases k<;>rfl) hp
theorem PD (h1:Has ms G i x (bg (.int k m))) (h2:Has ms G i y (bg (.int k n))) (hp:Post G i (pB (decide (m>=n)))):OpOk P ops ms c V A G i ⟨some d,.binOp .geq t x y u,ty,pos,aft,none⟩:=dJ h1 h2 (λ_=>by cases k<;>rfl) hp
theorem T6 (h1:Has ms G i x (bg (.int k m))) (h2:Has ms G i y (bg (.int k n))) (hp:Post G i (pB (decide (m=n)))):OpOk P ops ms c V A G i ⟨some d,.binOp .eql t x y u,ty,pos,aft,none⟩:=dJ h1 h2 (v:=.bool (m==n)) (λ_=>by cases k<;>rfl) (by rw[show(m==n)=decide (m=n) by by_cases h:m=n<;>simp[h]]; exact hp)
theorem T8 (h1:Has ms G i x (bg (.int k m))) (h2:Has ms G i y (bg (.int k n))) (hp:Post G i (pB (decide (m≠n)))):OpOk P ops ms c V A G i ⟨some d,.binOp .neq t x y u,ty,pos,aft,none⟩:=dJ h1 h2 (v:=.bool (m != n)) (λ_=>by cases k<;>rfl) (by rw[show(m != n)=decide (m≠n) by by_cases h:m=n<;>simp[h]]; exact hp)
theorem PB (h1:Has ms G i x (pI m)) (h2:Has ms G i y (pI n)) (hp:Post G i (pI (m+n))) (hr:-9223372036854775808<=m+n/\m+n<=9223372036854775807:=by omega):OpOk P ops ms c V A G i ⟨some d,.binOp .add t x y u,ty,pos,aft,none⟩:=
 dJ h1 h2 (v:=.int .i64 (IntKind.i64.wrap (m+n))) (λ_=>rfl) (by rw[IntWalk.i64_in _ hr]; exact hp)
theorem PJ (h1:Has ms G i x (pI m)) (h2:Has ms G i y (pI n)) (hp:Post G i (pI (m-n))) (hr:-9223372036854775808<=m-n/\m-n<=9223372036854775807:=by omega):OpOk P ops ms c V A G i ⟨some d,.binOp .sub t x y u,ty,pos,aft,none⟩:=
 dJ h1 h2 (v:=.int .i64 (IntKind.i64.wrap (m-n))) (λ_=>rfl) (by rw[IntWalk.i64_in _ hr]; exact hp)
theorem PI (h1:Has ms G i x (pI m)) (h2:Has ms G i y (pI n)) (hp:Post G i (pI (m*n))) (hr:-9223372036854775808<=m*n/\m*n<=9223372036854775807:=by omega):OpOk P ops ms c V A G i ⟨some d,.binOp .mul t x y u,ty,pos,aft,none⟩:=
 dJ h1 h2 (v:=.int .i64 (IntKind.i64.wrap (m*n))) (λ_=>rfl) (by rw[IntWalk.i64_in _ hr]; exact hp)
variable {T:TypeId} {s:Nat} {v:Vr} {p:Pred}
theorem o_load (hv:QH ms i s V=some v) (bR:v.kd=.ptr) (hst:(v.st.all λq=>(ms.getD i 0).testBit q.1||(ms.getD q.1 0).testBit i)=true)
  (hc:cont (λj=>(ms.getD i 0).testBit j) v.c0 v.st=pv p) (hp:Post G i p) (ht:Ty P T v.agg v.n):OpOk P ops ms c V A G i ⟨some d,.load T (.tmp s),ty,pos,aft,none⟩:=by
 obtain⟨⟨k,hk⟩,h1,h2⟩:=nQ hv
 exact eW k hk h1 h2 bR hst ht hc hp
variable {agg:Bool} {al:Al} {q:Pred}
theorem uO {n:Nat} (ha:JM ms i s A=some al) (hv:mU al.var V=some v) (ho:bE ms i v=true) (bR:v.kd=.ptr) (hst:(v.st.all λq=>(ms.getD i 0).testBit q.1||(ms.getD q.1 0).testBit i)=true)
  (hc:cont (λj=>(ms.getD i 0).testBit j) v.c0 v.st=pv p) (ht:Ty P T agg n) (hq:∀w cs,cs.length=v.n->p w (aj v.agg cs)->q w (aj agg ((cs.drop al.off).take n))) (hcd:al.cond) (hp:Post G i q) (hlen:decide (al.off+n<=v.n)=true):OpOk P ops ms c V A G i ⟨some d,.load T (.tmp s),ty,pos,aft,none⟩:=by
 obtain⟨⟨k2,hk2⟩,h1,h2⟩:=xY ha
 obtain⟨⟨k,hk⟩,h3⟩:=fS hv
 exact gm k hk k2 hk2 h1 h3 rfl h2 hcd ho bR hst ht hlen hc hq hp
variable {S f off:Nat}
theorem Ky (ha:NW i A=some al) (hv:mU al.var V=some v) (ho:bE ms i v=true) (bR:v.kd=.ptr) (hs:v.slot=s)
  (hf:∀b w,(Instr.fieldAt S (.pointer (some ⟨b,0,none⟩)) f).run P w=.ok (.pointer (some ⟨b,off,none⟩)) w) (dX:al.off=off) (hu:(A.filter λq=>q.tag==some i).length=1) (hno:(G.all λe=>e.tag != some i)=true):
  OpOk P ops ms c V A G i ⟨some d,.fieldAddr S (.tmp s) f,ty,pos,aft,none⟩:=by
 obtain⟨⟨k2,hk2⟩,h1⟩:=uc ha
 obtain⟨⟨k,hk⟩,h3⟩:=fS hv
 exact gK k hk ho bR k2 hk2 h1 h3 dX (.inl ⟨hs.symm,rfl⟩) hu hno hf
variable {rJ:Al}
theorem B7 (ha:NW i A=some al) (ha0:JM ms i s A=some rJ) (hv:mU al.var V=some v) (hv0:rJ.var=al.var) (ho:bE ms i v=true) (bR:v.kd=.ptr)
  (hf:∀b w,(Instr.fieldAt S (.pointer (some ⟨b,rJ.off,none⟩)) f).run P w=.ok (.pointer (some ⟨b,off,none⟩)) w) (dX:al.off=off) (hcd:rJ.cond) (hu:(A.filter λq=>q.tag==some i).length=1) (hno:(G.all λe=>e.tag != some i)=true):
  OpOk P ops ms c V A G i ⟨some d,.fieldAddr S (.tmp s) f,ty,pos,aft,none⟩:=by
 obtain⟨⟨k2,hk2⟩,h1⟩:=uc ha
 obtain⟨⟨k3,hk3⟩,h4,h5⟩:=xY ha0
 obtain⟨⟨k,hk⟩,h3⟩:=fS hv
 exact gK k hk ho bR k2 hk2 h1 h3 dX (.inr ⟨k3,rJ,hk3,h4,hv0.trans h3,rfl,h5,hcd⟩) hu hno hf
theorem DC (ha:NW i A=some al) (hv:mU al.var V=some v) (ho:bE ms i v=true) (bR:v.kd=.ptr) (hs:v.slot=s) (RM:Has ms G i y (pI n))
  (hf:∀b w,(Instr.indexAt S (.pointer (some ⟨b,0,none⟩)) (.int .i64 n)).run P w=.ok (.pointer (some ⟨b,off,none⟩)) w) (dX:al.off=off) (hu:(A.filter λq=>q.tag==some i).length=1) (hno:(G.all λe=>e.tag != some i)=true):
  OpOk P ops ms c V A G i ⟨some d,.indexAddr S (.tmp s) y,ty,pos,aft,none⟩:=by
 obtain⟨⟨k2,hk2⟩,h1⟩:=uc ha
 obtain⟨⟨k,hk⟩,h3⟩:=fS hv
 exact FM k hk ho bR k2 hk2 h1 h3 dX (.inl ⟨hs.symm,rfl⟩) hu hno RM hf
theorem wC (ha:NW i A=some al) (ha0:JM ms i s A=some rJ) (hv:mU al.var V=some v) (hv0:rJ.var=al.var) (ho:bE ms i v=true) (bR:v.kd=.ptr) (RM:Has ms G i y (pI n))
  (hf:∀b w,(Instr.indexAt S (.pointer (some ⟨b,rJ.off,none⟩)) (.int .i64 n)).run P w=.ok (.pointer (some ⟨b,off,none⟩)) w) (dX:al.off=off) (hcd:rJ.cond) (hu:(A.filter λq=>q.tag==some i).length=1) (hno:(G.all λe=>e.tag != some i)=true):
  OpOk P ops ms c V A G i ⟨some d,.indexAddr S (.tmp s) y,ty,pos,aft,none⟩:=by
 obtain⟨⟨k2,hk2⟩,h1⟩:=uc ha
 obtain⟨⟨k3,hk3⟩,h4,h5⟩:=xY ha0
 obtain⟨⟨k,hk⟩,h3⟩:=fS hv
 exact FM k hk ho bR k2 hk2 h1 h3 dX (.inr ⟨k3,rJ,hk3,h4,hv0.trans h3,rfl,h5,hcd⟩) hu hno RM hf
variable {r:List (Nat×Rel)}
theorem gV (hv:QH ms i s V=some v) (bR:v.kd=.ptr) (h:Has ms G i y p) (hm:NF i v.st=some (pv p,r)) (hr:(r.all λr=>(ms.getD r.1 0).testBit i)=true) (ht:Ty P T v.agg v.n) (hf:Fits v.n v.agg p)
  (gg:(V.all λy=>y.id==v.id||y.st.all λq=>q.1 != i)=true):OpOk P ops ms c V A G i ⟨none,.store T (.tmp s) y,ty,pos,aft,none⟩:=by
 obtain⟨⟨k,hk⟩,h1,h2⟩:=nQ hv
 obtain⟨m,h3,h4⟩:=ve hm
 exact mJ k hk h1 h2 bR m h3 (by rw[h4]; exact hr) gg ht h hf
theorem me {n:Nat} {q0:Pred} (ha:JM ms i s A=some al) (hv:mU al.var V=some v) (ho:bE ms i v=true) (bR:v.kd=.ptr) (hst:(v.st.all λq=>q.1==i||((ms.getD i 0).testBit q.1||(ms.getD q.1 0).testBit i))=true)
  (hc:cont (λj=>(ms.getD i 0).testBit j) v.c0 v.st=pv q0) (h:Has ms G i y p) (ht:Ty P T agg n) (hq:∀w cs ds,cs.length=v.n->ds.length=n->q0 w (aj v.agg cs)->p w (aj agg ds)->q w (aj v.agg (cs.take al.off++ds++cs.drop (al.off+n))))
  (hm:NF i v.st=some (pv q,r)) (hr:(r.all λr=>(ms.getD r.1 0).testBit i)=true) (hcd:al.cond) (hf:Fits n agg p) (hlen:decide (al.off+n<=v.n)=true)
  (gg:(V.all λy=>y.id==v.id||y.st.all λq=>q.1 != i)=true):OpOk P ops ms c V A G i ⟨none,.store T (.tmp s) y,ty,pos,aft,none⟩:=by
 obtain⟨⟨k2,hk2⟩,h1,h2⟩:=xY ha
 obtain⟨⟨k,hk⟩,h3⟩:=fS hv
 obtain⟨m,h5,h6⟩:=ve hm
 exact IX k hk k2 hk2 h1 h3 rfl h2 hcd ho bR hst m h5 (by rw[h6]; exact hr) gg ht hlen hc h hf hq
theorem Si (l:List Zl) (hv:AF i V=some v) (hT:v.T=T) (bR:v.kd=.ptr) (hc:v.c0=pv (pS (l.map Zl.fd))) (qj:v.agg=true)
  (hz:∀w,(zeroValue T).run P w=.ok (.agg (l.flatMap Zl.cs).toArray) w) (hl:(l.flatMap Zl.cs).length=v.n) (hst:((v.st.all λq=>(ms.getD q.1 0).testBit i)&&V.all λy=>y.dead != some i)=true) (hno:(G.all λe=>e.tag != some i)=true) (dX:(A.all λp=>p.var != v.id||p.tag.any λj=>(ms.getD j 0).testBit i)=true):
  OpOk P ops ms c V A G i ⟨some d,.alloc T,ty,pos,aft,none⟩:=by
 obtain⟨⟨k,hk⟩,hb⟩:=eY hv
 exact kZ k hk hb hst hno dX hT bR hz rfl hl (Az l) hc λw=>by rw[qj]; exact tP l w
theorem PC (l:Zl) {z:Value} (hl:l.cs=[z]) (hv:AF i V=some v) (hT:v.T=T) (bR:v.kd=.ptr) (hc:v.c0=pv l.fd.p) (qj:v.agg=false) (hn:v.n=1)
  (hz:∀w,(zeroValue T).run P w=.ok z w) (zB:z.cells=[z].toArray) (hp:∀w,l.fd.p w z) (hst:((v.st.all λq=>(ms.getD q.1 0).testBit i)&&V.all λy=>y.dead != some i)=true) (hno:(G.all λe=>e.tag != some i)=true) (dX:(A.all λp=>p.var != v.id||p.tag.any λj=>(ms.getD j 0).testBit i)=true):
  OpOk P ops ms c V A G i ⟨some d,.alloc T,ty,pos,aft,none⟩:=by
 obtain⟨⟨k,hk⟩,hb⟩:=eY hv
 exact kZ k hk hb hst hno dX hT bR hz zB hn.symm (λu hu=>Az [l] u (by simpa [hl] using hu)) hc λw=>by rw[qj]; exact hp w
theorem ZB (hv:AF i V=some v) (hT:v.T=T) (bR:v.kd=.ptr) (h:Has ms G i x p) (hc:v.c0=pv p) (hf:Fits v.n v.agg p) (hst:((v.st.all λq=>(ms.getD q.1 0).testBit i)&&V.all λy=>y.dead != some i)=true) (hno:(G.all λe=>e.tag != some i)=true) (dX:(A.all λp=>p.var != v.id||p.tag.any λj=>(ms.getD j 0).testBit i)=true):
  OpOk P ops ms c V A G i ⟨some d,.box T x,ty,pos,aft,none⟩:=by
 obtain⟨⟨k,hk⟩,hb⟩:=eY hv
 exact wE k hk hb hst hno dX hT bR h hf hc
variable {j:Nat} {b cb:Bool} {op:Op} {dst:Option Nat}
theorem adq (hg:nJ j G=some (pB cb)) (h:cb=b->OpOk P ops ms c V A G i ⟨dst,op,ty,pos,aft,none⟩) (hA:¬cb=b->AG A i) (hp:¬cb=b->Post G i (bg undef))
  (hj:(G.all λe=>e.tag != some j||((ms.getD i 0).testBit j&&kY ms i e.till))=true) (hb:(V.all λx=>(x.born != some i&&x.dead != some i)&&x.st.all λq=>q.1 != i)=true):OpOk P ops ms c V A G i ⟨dst,op,ty,pos,aft,some (j,b)⟩:=by
 obtain⟨s,f,k,hk⟩:=post hg
 have:=List.all_eq_true.1 hj _ (List.mem_of_getElem? hk)
 exact ZH k hk (by simpa using this) h hb hA hp
theorem ZD {φ:Prop} [Decidable φ] {op:Op} {dst:Option Nat} (hg:nJ j G=some (wK φ (pB cb))) (h:φ/\cb=b->OpOk P ops ms c V A G i ⟨dst,op,ty,pos,aft,none⟩) (hA:¬(φ/\cb=b)->AG A i) (hp:¬(φ/\cb=b)->Post G i (bg undef))
  (hj:(G.all λe=>e.tag != some j||((ms.getD i 0).testBit j&&kY ms i e.till))=true) (hb:(V.all λx=>(x.born != some i&&x.dead != some i)&&x.st.all λq=>q.1 != i)=true):OpOk P ops ms c V A G i ⟨dst,op,ty,pos,aft,some (j,b)⟩:=by
 obtain⟨s,f,k,hk⟩:=post hg
 have:=List.all_eq_true.1 hj _ (List.mem_of_getElem? hk)
 exact V3 k hk (by simpa using this) h hb hA hp
theorem ZG (hg:nJ j G=some (pB cb)) (hcb:cb=b) (h:OpOk P ops ms c V A G i ⟨dst,op,ty,pos,aft,none⟩)
  (hj:(G.all λe=>e.tag != some j||((ms.getD i 0).testBit j&&kY ms i e.till))=true):OpOk P ops ms c V A G i ⟨dst,op,ty,pos,aft,some (j,b)⟩:=by
 obtain⟨s,f,k,hk⟩:=post hg
 have:=List.all_eq_true.1 hj _ (List.mem_of_getElem? hk)
 subst hcb
 exact V4 k hk (by simpa using this) h
end
end Wx

namespace Wx
open Go Go.RowKit
def ZT (P:Program) (E:TypeId) (n:Nat):Bool:=match P.info? E with
 |some i=>Nat.beq i.size n
 |none=>false
variable {P:Program} {n:Nat}
theorem yD {E:TypeId} (h:ZT P E n=true) (w:World):(Go.sizeOf E).run P w=.ok n w:=by
 unfold ZT at h
 split at h
 ·rename_i i hi
  have:=Nat.eq_of_beq_eq_true h
  subst this
  simp[Go.sizeOf,typeInfo,hi]
 ·cases h
def Gu (P:Program) (T:TypeId) (ag:Bool) (n:Nat):Bool:=ZT P T n&&((ag||Nat.beq n 1)&&match P.underlying T with
 |some (.struct _)|some (.array _ _)=>ag
 |some _=>!ag
 |none=>false)
variable {T:TypeId} {ag:Bool}
theorem aY (h:Gu P T ag n=true):Ty P T ag n:=by
 unfold Gu at h
 rw[Bool.and_eq_true,Bool.and_eq_true]at h
 obtain⟨h1,h2,h3⟩:=h
 refine⟨λw=>?_,yD h1,λe=>?_⟩
 ·cases hu:P.underlying T with
  |none=>rw[hu]at h3; cases h3
  |some u=>
   rw[hu]at h3
   have hr:=run_underlying hu w
   simp only[isAgg,Sem.run_bind,hr,Result.andThen_ok]
   cases u<;>simp at h3<;>subst h3<;>rfl
 ·subst e; rw[Bool.false_or]at h2; exact Nat.eq_of_beq_eq_true h2
class rH (P:Program) (T:TypeId) (ag:outParam Bool) (n:outParam Nat):Prop where
 ok:Ty P T ag n
def Xo (P:Program) (T:TypeId) (sz:Nat):Bool:=match P.underlying T with
 |some (.slice E)=>ZT P E sz
 |_=>false
variable {sz:Nat}
theorem DY (h:Xo P T sz=true):∃E,mV P T E sz:=by
 unfold Xo at h
 split at h
 ·rename_i E hE; exact⟨E,hE,yD h⟩
 ·cases h
def VN (P:Program) (T:TypeId):Bool:=match P.underlying T with
 |some (.slice _)=>true
 |_=>false
theorem RV (h:VN P T=true):∃E,P.underlying T=some (.slice E):=by
 unfold VN at h
 split at h
 ·rename_i E hE; exact⟨E,hE⟩
 ·cases h
def GN (P:Program) (T:TypeId) (len sz:Nat):Bool:=match P.underlying T with
 |some (.array n E)=>Nat.beq n len&&ZT P E sz
 |_=>false
theorem gY {len:Nat} (h:GN P T len sz=true) {b off:Nat} {m:Int} (h0:0<=m) (h1:m<len) (w:World):(Instr.indexAt T (.pointer (some ⟨b,off,none⟩)) (.int .i64 m)).run P w=.ok (.pointer (some ⟨b,off+m.toNat*sz,none⟩)) w:=by
 unfold GN at h
 split at h
 ·rename_i n E hE
  rw[Bool.and_eq_true]at h
  have e:=Nat.eq_of_beq_eq_true h.1
  subst e
  have hu:(underlying T).run P w=.ok (.array n E) w:=run_underlying hE w
  simp only[Instr.indexAt,asIntOf,pure_bind,Sem.run_bind,hu,Result.andThen_ok,Instr.sureAddr]
  rw[if_pos ⟨h0,h1⟩]
  simp only[Sem.run_bind,yD h.2,Result.andThen_ok,Sem.run_pure,Addr.add_mid]
 ·cases h
variable {p:Pred}
theorem oK (h:Fits n ag p:=by
 first
 |exact cE
 |exact x9
 |exact fits_int _
 |exact fits_bool _
 |exact cV _
 |exact E7 _
 |exact iU _ _ _
 |exact uu
 |exact E8 _
 |exact eF (λ_=>cE) (by first|rfl|omega|(simp; omega))
 |exact eF (λ_=>x9) (by first|rfl|omega|(simp; omega))
 |exact vY (by repeat' (first|exact trivial|exact cE|exact x9|exact fits_int _|exact fits_bool _|exact iU _ _ _|exact uu|exact E8 _|refine⟨?_,?_⟩)) rfl):Fits n ag p:=h
theorem Q8 (h:aK p:=by
 first
 |exact iZ
 |exact tA
 |exact bU _
 |exact mH λ_=>iZ
 |exact mH λ_=>tA
 |exact cH _
 |exact qX _
 |exact jF iZ (bU _)
 |exact jF tA (bU _)
 |exact jF (cH _) (bU _)
 |exact jF (qX _) (bU _)):aK p:=h
variable {q:Pred}
theorem uk (h:∀w v,p w v->q w v:=by
 first
 |exactλ_ _ h=>h
 |exact nF (by omega)
 |exact xx (by omega)
 |exact w7.pV (by repeat' (first|exact w7.z|refine w7.c (by omega) ?_))
 |exactλ_ _ h=>h
 |exactλ_ _ h=>h.2):∀w v,p w v->q w v:=h
variable {i:Nat}
theorem Has.adE {ms:List Nat} {G:List bz} {x:Operand} {φ ψ:Prop} (h:Has ms G i x (wK (φ/\ψ) q)) (hφ:φ):Has ms G i x (wK ψ q):=
 h.imp λ_ _ k=>⟨λhψ=>k.1 ⟨hφ,hψ⟩,λhψ=>k.2 λhh=>hψ hh.2⟩
theorem alN {A:List Al} {al:Al} (h:NW i A=some al) (hn:¬al.cond) (hu:(A.filter λq=>q.tag==some i).length=1):AG A i:=by
 obtain⟨⟨k,hk⟩,ht⟩:=uc h
 exact .at_ k hk ht hu hn
def tm:Nat->Nat->List Nat
 |0,_=>[]
 |n+1,k=>k::tm n (2*k+1)
section
variable {P:Program} {ops:Array Oper} {ms:List Nat} {c:fT} {V:List Vr} {A:List Al} {G:List bz} {i:Nat}{d:Nat} {x y z:Operand} {ty:TypeId} {pos:String} {aft:Array Edge}{T:TypeId} {sz n:Nat} {agg:Bool} {f:Nat->Pred}
theorem T7 (h:Has ms G i x (aA sz agg n f)) (hp:Post G i (pI (n:Int))) (ht:VN P T=true):
  OpOk P ops ms c V A G i ⟨some d,.call ⟨.builtin .len,#[x],#[T]⟩,ty,pos,aft,none⟩:=(RV ht).elim λ_ hE=>fl h hE hp
theorem zN {m:Int} (k:Nat) (h:Has ms G i x (aA sz agg n f)) (hy:Has ms G i y (pI m)) (hm:m=(k:Int)) (hp:Post G i (cZ sz agg (f k))) (hk:k<n) (ht:Xo P T sz=true) (hA:(A.all λq=>q.tag != some i)=true):
  OpOk P ops ms c V A G i ⟨some d,.indexAddr T x y,ty,pos,aft,none⟩:=by
 obtain⟨E,hE⟩:=DY ht
 subst hm
 exact jk h hy hE (by omega) (by omega) hA (by rw[Int.toNat_natCast]; exact hp)
theorem cK {p:Pred} (h:Has ms G i x (cZ sz agg p)) (hp:Post G i p) (ht:Gu P T agg sz=true) (hfit:Fits sz agg p):OpOk P ops ms c V A G i ⟨some d,.load T x,ty,pos,aft,none⟩:=
 dQ h (aY ht) hfit hp
variable {cb b2:Bool}
theorem T5 (h:Has ms G i x (pB cb)) (hy:Has ms G i y (wK (cb=true) (pB b2))) (hz:Has ms G i z (pB false)) (hp:Post G i (pB (cb&&b2))):OpOk P ops ms c V A G i ⟨some d,.pick x y z,ty,pos,aft,none⟩:=
 uS h (λe=>(hy.Xn e).imp λ_ _ k=>by rw[e]; exact k) (λe=>hz.imp λ_ _ k=>by rw[e]; exact k) hp
theorem ZF (h:Has ms G i x (pB cb)) (hy:Has ms G i y (pB true)) (hz:Has ms G i z (wK (cb=false) (pB b2))) (hp:Post G i (pB (cb||b2))):OpOk P ops ms c V A G i ⟨some d,.pick x y z,ty,pos,aft,none⟩:=
 uS h (λe=>hy.imp λ_ _ k=>by rw[e]; exact k) (λe=>(hz.Xn e).imp λ_ _ k=>by rw[e]; exact k) hp
end
end Wx

namespace Wx
open Go Go.RowKit
section
variable {P:Program} {ops:Array Oper} {ms:List Nat} {c:fT} {V:List Vr} {A:List Al} {G:List bz} {i:Nat}{d:Nat} {x y z:Operand} {ty:TypeId} {pos:String} {aft:Array Edge}{p:Pred}
theorem hs (h:Has ms G i x p:=by
 first
 |exact look rfl
 |exact .const _
 |exact .func _):Has ms G i x p:=h
theorem hg (h:Has ms G i x p:=by
 first
 |exact .const _
 |exact .func _
 |exact Has.Xn (look rfl) (by assumption)
 |exact Has.Xn (look rfl) (And.left (by assumption))
 |exact Has.adE (look rfl) (by assumption)
 |exact look rfl):Has ms G i x p:=h
variable {φ:Prop}
theorem pg (hc:φ) (h:nJ i G=some (wK φ p)):Post G i p:=ptS hc h
variable {o:Oper}
theorem mv (h:OpOk P ops ms c V A G i o:=by
 first
 |exact aW hs (pt rfl)
 |exact ej hs (pt rfl)):OpOk P ops ms c V A G i o:=h
theorem yf (hc:φ) {o:Oper} (h:φ->OpOk P ops ms c V A G i o:=by
 intro hc
 first
 |exact aW hg (pg hc rfl)
 |exact ej hg (pg hc rfl)):OpOk P ops ms c V A G i o:=h hc
theorem ld (h:OpOk P ops ms c V A G i o:=by
 first
 |exact o_load rfl rfl rfl rfl (pt rfl) (aY (by kernel_rfl))
 |exact uO rfl rfl rfl rfl (by kernel_rfl) rfl rH.ok (Fs rfl) trivial (pt rfl) rfl
 |exact cK hs (pt rfl) (by kernel_rfl) oK):OpOk P ops ms c V A G i o:=h
theorem Fa (hc:φ) {o:Oper} (h:φ->OpOk P ops ms c V A G i o:=by
 intro hc
 first
 |exact o_load rfl rfl rfl rfl (pg hc rfl) (aY (by kernel_rfl))
 |exact uO rfl rfl rfl rfl (by kernel_rfl) rfl rH.ok (Fs rfl) (by first|exact trivial|exact hc) (pg hc rfl) rfl
 |exact cK hg (pg hc rfl) (by kernel_rfl) oK):OpOk P ops ms c V A G i o:=h hc
theorem bn (h:OpOk P ops ms c V A G i o:=by
 first
 |exact PG hs hs (pt rfl)
 |exact PF hs hs (pt rfl)
 |exact PE hs hs (pt rfl)
 |exact PD hs hs (pt rfl)
 |exact T6 hs hs (pt rfl)
 |exact T8 hs hs (pt rfl)
 |exact PB hs hs (pt rfl)
 |exact PJ hs hs (pt rfl)
 |exact PI hs hs (pt rfl)):OpOk P ops ms c V A G i o:=h
theorem ya (hc:φ) {o:Oper} (h:φ->OpOk P ops ms c V A G i o:=by
 intro hc
 first
 |exact PG hg hg (pg hc rfl)
 |exact PF hg hg (pg hc rfl)
 |exact PE hg hg (pg hc rfl)
 |exact PD hg hg (pg hc rfl)
 |exact T6 hg hg (pg hc rfl)
 |exact T8 hg hg (pg hc rfl)
 |exact PB hg hg (pg hc rfl)
 |exact PJ hg hg (pg hc rfl)
 |exact PI hg hg (pg hc rfl)):OpOk P ops ms c V A G i o:=h hc
theorem nt (h:OpOk P ops ms c V A G i o:=by
 first
 |exact PT hs (pt rfl)):OpOk P ops ms c V A G i o:=h
theorem RF (hc:φ) {o:Oper} (h:φ->OpOk P ops ms c V A G i o:=by
 intro hc
 first
 |exact PT hg (pg hc rfl)):OpOk P ops ms c V A G i o:=h hc
theorem ln (h:OpOk P ops ms c V A G i o:=by
 first
 |exact T7 hs (pt rfl) (by kernel_rfl)):OpOk P ops ms c V A G i o:=h
theorem W4 (hc:φ) {o:Oper} (h:φ->OpOk P ops ms c V A G i o:=by
 intro hc
 first
 |exact T7 hg (pg hc rfl) (by kernel_rfl)):OpOk P ops ms c V A G i o:=h hc
theorem fa (h:OpOk P ops ms c V A G i o:=by
 first
 |exact Ky rfl rfl rfl rfl rfl (λ_ _=>by kernel_rfl) rfl (by kernel_rfl) (by kernel_rfl)
 |exact B7 rfl rfl rfl rfl rfl rfl (λ_ _=>by kernel_rfl) rfl trivial (by kernel_rfl) (by kernel_rfl)
 |exact DC rfl rfl rfl rfl rfl hs (λ_ _=>by kernel_rfl) rfl (by kernel_rfl) (by kernel_rfl)
 |exact wC rfl rfl rfl rfl rfl rfl hs (λ_ _=>by kernel_rfl) rfl trivial (by kernel_rfl) (by kernel_rfl)):OpOk P ops ms c V A G i o:=h
theorem mZ (hc:φ) {o:Oper} (h:φ->OpOk P ops ms c V A G i o:=by
 intro hc
 first
 |exact Ky rfl rfl rfl rfl rfl (λ_ _=>by kernel_rfl) rfl (by kernel_rfl) (by kernel_rfl)
 |exact B7 rfl rfl rfl rfl rfl rfl (λ_ _=>by kernel_rfl) rfl (by first|exact trivial|exact hc) (by kernel_rfl) (by kernel_rfl)
 |exact DC rfl rfl rfl rfl rfl hg (λ_ _=>by kernel_rfl) rfl (by kernel_rfl) (by kernel_rfl)
 |exact wC rfl rfl rfl rfl rfl rfl hg (λ_ _=>by kernel_rfl) rfl (by first|exact trivial|exact hc) (by kernel_rfl) (by kernel_rfl)):OpOk P ops ms c V A G i o:=h hc
theorem ix (h:OpOk P ops ms c V A G i o:=by
 first
 |exact zN _ hs hs rfl (pt rfl) (by omega) (by kernel_rfl) (by kernel_rfl)
 |exact zN _ hs hs (Int.toNat_of_nonneg (by omega)).symm (pt rfl) (by omega) (by kernel_rfl) (by kernel_rfl)):OpOk P ops ms c V A G i o:=h
theorem ext (h:OpOk P ops ms c V A G i o:=by
 first
 |exact jc hs Tq (pt rfl)
 |exact jc hs Tr (pt rfl)
 |exact jc hs XX (pt rfl)
 |exact jc hs XY (pt rfl)
 |exact jc hs XZ (pt rfl)):OpOk P ops ms c V A G i o:=h
theorem pk (h:OpOk P ops ms c V A G i o:=by
 first
 |exact T5 hs hs hs (pt rfl)
 |exact ZF hs hs hs (pt rfl)):OpOk P ops ms c V A G i o:=h
theorem gpk (hc:φ) {o:Oper} (h:φ->OpOk P ops ms c V A G i o:=by
 intro hc
 first
 |exact T5 hg hg hg (pg hc rfl)
 |exact ZF hg hg hg (pg hc rfl)):OpOk P ops ms c V A G i o:=h hc
theorem dM (h:OpOk P ops ms c V A G i o:=by
 first
 |exact gV rfl rfl hs rfl rfl (aY (by kernel_rfl)) oK (by kernel_rfl)
 |exact me rfl rfl rfl rfl (by kernel_rfl) rfl hs rH.ok (M8 rfl) rfl (by kernel_rfl) trivial oK rfl (by kernel_rfl)
 |exact me rfl rfl rfl rfl (by kernel_rfl) rfl hs rH.ok (M9 rfl) rfl (by kernel_rfl) trivial oK rfl (by kernel_rfl)):OpOk P ops ms c V A G i o:=h
theorem bo (h:OpOk P ops ms c V A G i o:=by
 first
 |exact ZB rfl rfl rfl hs rfl oK (by kernel_rfl) (by kernel_rfl) (by kernel_rfl)):OpOk P ops ms c V A G i o:=h
variable {j:Nat} {b cb:Bool}
theorem gd {op:Op} {dst:Option Nat} (h:cb=b->OpOk P ops ms c V A G i ⟨dst,op,ty,pos,aft,none⟩) (hq:nJ j G=some (pB cb):=by exact rfl) (hA:¬cb=b->AG A i:=by intro hn; first|exact .none rfl|exact alN rfl hn (by kernel_rfl)) (hp:¬cb=b->Post G i (bg undef):=by intro hn; first|exact ptN hn rfl|exact .none rfl)
  (hj:(G.all λe=>e.tag != some j||((ms.getD i 0).testBit j&&kY ms i e.till))=true:=by kernel_rfl) (hb:(V.all λx=>(x.born != some i&&x.dead != some i)&&x.st.all λq=>q.1 != i)=true:=by kernel_rfl):OpOk P ops ms c V A G i ⟨dst,op,ty,pos,aft,some (j,b)⟩:=adq hq h hA hp hj hb
theorem TC [Decidable φ] {op:Op} {dst:Option Nat} (h:φ/\cb=b->OpOk P ops ms c V A G i ⟨dst,op,ty,pos,aft,none⟩) (hq:nJ j G=some (wK φ (pB cb)):=by exact rfl) (hA:¬(φ/\cb=b)->AG A i:=by intro hn; first|exact .none rfl|exact alN rfl hn (by kernel_rfl)) (hp:¬(φ/\cb=b)->Post G i (bg undef):=by intro hn; first|exact ptN hn rfl|exact .none rfl)
  (hj:(G.all λe=>e.tag != some j||((ms.getD i 0).testBit j&&kY ms i e.till))=true:=by kernel_rfl) (hb:(V.all λx=>(x.born != some i&&x.dead != some i)&&x.st.all λq=>q.1 != i)=true:=by kernel_rfl):OpOk P ops ms c V A G i ⟨dst,op,ty,pos,aft,some (j,b)⟩:=ZD hq h hA hp hj hb
variable {T:TypeId} {v:Vr}
theorem fB (l:List Zl) (hv:AF i V=some v:=by exact rfl) (hT:v.T=T:=by exact rfl) (bR:v.kd=.ptr:=by exact rfl) (hc:v.c0=pv (pS (l.map Zl.fd)):=by exact rfl) (qj:v.agg=true:=by exact rfl)
  (hz:∀w,(zeroValue T).run P w=.ok (.agg (l.flatMap Zl.cs).toArray) w:=by exactλ_=>by kernel_rfl) (hl:(l.flatMap Zl.cs).length=v.n:=by exact rfl) (hst:((v.st.all λq=>(ms.getD q.1 0).testBit i)&&V.all λy=>y.dead != some i)=true:=by kernel_rfl) (hno:(G.all λe=>e.tag != some i)=true:=by kernel_rfl) (dX:(A.all λp=>p.var != v.id||p.tag.any λj=>(ms.getD j 0).testBit i)=true:=by kernel_rfl):
  OpOk P ops ms c V A G i ⟨some d,.alloc T,ty,pos,aft,none⟩:=Si l hv hT bR hc qj hz hl hst hno dX
theorem ado (l:Zl) {z:Value} (hl:l.cs=[z]:=by exact rfl) (hv:AF i V=some v:=by exact rfl) (hT:v.T=T:=by exact rfl) (bR:v.kd=.ptr:=by exact rfl) (hc:v.c0=pv l.fd.p:=by exact rfl) (qj:v.agg=false:=by exact rfl) (hn:v.n=1:=by exact rfl)
  (hz:∀w,(zeroValue T).run P w=.ok z w:=by exactλ_=>by kernel_rfl) (zB:z.cells=[z].toArray:=by exact rfl) (hp:∀w,l.fd.p w z:=by exactλ_=>rfl) (hst:((v.st.all λq=>(ms.getD q.1 0).testBit i)&&V.all λy=>y.dead != some i)=true:=by kernel_rfl) (hno:(G.all λe=>e.tag != some i)=true:=by kernel_rfl) (dX:(A.all λp=>p.var != v.id||p.tag.any λj=>(ms.getD j 0).testBit i)=true:=by kernel_rfl):
  OpOk P ops ms c V A G i ⟨some d,.alloc T,ty,pos,aft,none⟩:=PC l hl hv hT bR hc qj hn hz zB hp hst hno dX
theorem fP {S f sz:Nat} {fs:List Fd} {q:Pred} (off n:Nat) (ag:Bool) (h:Has ms G i x (cZ sz true (pS fs)):=by exact hs) (hq:So ag (Gk fs off n)=some q:=by exact rfl) (hp:Post G i (cZ n ag q):=by exact pt rfl) (hn:n≠0:=by decide) (hf:∀b o w,(Instr.fieldAt S (.pointer (some ⟨b,o,none⟩)) f).run P w=.ok (.pointer (some ⟨b,o+off,none⟩)) w:=by exactλ_ _ _=>by kernel_rfl)
  (hA:(A.all λq=>q.tag != some i)=true:=by kernel_rfl):OpOk P ops ms c V A G i ⟨some d,.fieldAddr S x f,ty,pos,aft,none⟩:=
 cC rfl rfl rfl (.inr hA) hp λL β a w hI hd=>by
  have hr:=h.spec hI hd
  obtain⟨b,o,cs,e,_⟩:=hr.out
  refine⟨.pointer (some ⟨b,o+off,none⟩),w,?_,Below.refl _ _,λw' he=>?_⟩
  ·show(do pure (Next.value (<-Instr.fieldAt S (a.eval x) f))).run P w=_
   rw[e,Sem.run_bind,hf]
   rfl
  ·obtain⟨b',o',cs',e',hl,hc,hp'⟩:=hr w' he
   rw[e]at e'
   injection e' with e'
   injection e' with e'
   injection e' with e1 e2
   subst e1 e2
   obtain⟨ds,e3,hds⟩:=hp'
   have e4:=bG (show aj true cs'=aj true ds from e3)
   subst e4
   cases hs:Gk fs off n with
   |none=>rw[hs]at hq; cases ag<;>cases hq
   |some l=>
    rw[hs]at hq
    have hk:=K8 hs hds
    have hlen:=hk.2
    rw[if_neg hn]at hlen
    refine⟨b,o+off,(cs'.drop off).take n,rfl,by rw[List.length_take,List.length_drop]; omega,λj u hj=>?_,KB hq hk.1⟩
    rw[List.getElem?_take]at hj
    split at hj
    ·rw[List.getElem?_drop]at hj
     rw[Nat.add_assoc]
     exact hc _ _ hj
    ·cases hj
variable {f:FuncId} {ts:Array TypeId} {p1 q1:Pred}
theorem qi (sk:φ->∀w v1,p1 w v1->Calls P f #[v1] w (ie p w)) (h1:Has ms G i x q1:=by exact hs) (c1:∀w v,q1 w v->p1 w v:=by exact uk) (hp:Post G i p:=by exact pt rfl) (hφ:φ:=by first|omega|trivial) (hn:aK p:=by exact Q8) (hf:aR P f:=by exactλ_ _=>by kernel_rfl):
  OpOk P ops ms c V A G i ⟨some d,.call ⟨.value (.func f),#[x],ts⟩,ty,pos,aft,none⟩:=q7 hf hn (h1.imp c1) hp (sk hφ)
variable {p2 q2:Pred}
theorem fZ (sk:φ->∀w v1 v2,p1 w v1->p2 w v2->Calls P f #[v1,v2] w (ie p w)) (h1:Has ms G i x q1:=by exact hs) (c1:∀w v,q1 w v->p1 w v:=by exact uk) (h2:Has ms G i y q2:=by exact hs) (c2:∀w v,q2 w v->p2 w v:=by exact uk) (hp:Post G i p:=by exact pt rfl) (hφ:φ:=by first|omega|trivial) (hn:aK p:=by exact Q8) (hf:aR P f:=by exactλ_ _=>by kernel_rfl):
  OpOk P ops ms c V A G i ⟨some d,.call ⟨.value (.func f),#[x,y],ts⟩,ty,pos,aft,none⟩:=iG hf hn (h1.imp c1) (h2.imp c2) hp (sk hφ)
theorem mS (sk:φ->∀M w v1,cL M w->aO M (λw=>p1 w v1) w->Calls P f #[v1] w (bH M p w)) (h1:Has ms G i x q1:=by exact hs) (c1:∀w v,q1 w v->p1 w v:=by exact uk) (hp:Post G i p:=by exact pt rfl) (hφ:φ:=by first|omega|trivial) (hf:aR P f:=by exactλ_ _=>by kernel_rfl):
  OpOk P ops ms c V A G i ⟨some d,.call ⟨.value (.func f),#[x],ts⟩,ty,pos,aft,none⟩:=Cb hf (h1.imp c1) hp (sk hφ)
theorem pq (sk:φ->∀M w v1 v2,cL M w->aO M (λw=>p1 w v1) w->aO M (λw=>p2 w v2) w->Calls P f #[v1,v2] w (bH M p w)) (h1:Has ms G i x q1:=by exact hs) (c1:∀w v,q1 w v->p1 w v:=by exact uk) (h2:Has ms G i y q2:=by exact hs) (c2:∀w v,q2 w v->p2 w v:=by exact uk) (hp:Post G i p:=by exact pt rfl) (hφ:φ:=by first|omega|trivial) (hf:aR P f:=by exactλ_ _=>by kernel_rfl):
  OpOk P ops ms c V A G i ⟨some d,.call ⟨.value (.func f),#[x,y],ts⟩,ty,pos,aft,none⟩:=wF hf (h1.imp c1) (h2.imp c2) hp (sk hφ)
end
section
variable {P:Program} {Q:Exit->Act->World->Prop} {c:fT} {V:List Vr} {G:List bz} {a:Act} {w:World}
theorem lA {id:Nat} {l:List Oper} {V1 V2:List Vr} {G1 G2:List bz} {y:Code} (h:Inv c V [] G none_ a w) (n:Nat) (nv:List Vr) (A1:List Al) (ne:List bz) (hV:tQ nv V V1) (hG:l6 ne G G1) (hs:nj P l.toArray (tm n 0) c V1 A1 G1 0 l) (kV:dV V1 V2) (kG:aF G1 G2) (hk:∀a w,Inv c V2 [] G2 none_ a w->y.wp P Q a w) (hn:iq nv A1 ne=true:=by kernel_rfl) (hb:qg c.N l (tm n 0) V1 A1 G1=true:=by kernel_rfl):(Code.seq (Code.region id l.toArray false) y).wp P Q a w:=
 Uk h nv A1 ne hV hG hn (tm n 0) hb hs kV kG hk
end
end Wx
