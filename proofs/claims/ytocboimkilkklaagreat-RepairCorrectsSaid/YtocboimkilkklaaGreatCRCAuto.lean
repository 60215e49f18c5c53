import Derived.Test.YtocboimkilkklaaGreatJRC20
namespace Wx
open Go Go.RowKit
def DY (ms:List Nat) (i s:Nat):List bf->Option Pred
 |[]=>none
 |⟨t,f,s',p⟩::r=>match Nat.beq s' s&&(rY ms i t&&ij ms i f)with
  |true=>some p
  |false=>DY ms i s r
def iL (i:Nat):List bf->Option Pred
 |[]=>none
 |⟨none,_,_,_⟩::r=>iL i r
 |⟨some j,_,_,p⟩::r=>match Nat.beq j i with
  |true=>some p
  |false=>iL i r
def iP (s:Nat):List bf->Option Pred
 |[]=>none
 |⟨none,none,s',p⟩::r=>match Nat.beq s' s with
  |true=>some p
  |false=>iP s r
 |_::r=>iP s r
def JV (ms:List Nat) (i s:Nat):List Al->Option Al
 |[]=>none
 |⟨t,s',v,o,c⟩::r=>match Nat.beq s' s&&rY ms i t with
  |true=>some ⟨t,s',v,o,c⟩
  |false=>JV ms i s r
def Kj (i:Nat):List Al->Option Al
 |[]=>none
 |⟨none,_,_,_,_⟩::r=>Kj i r
 |⟨some j,s',v,o,c⟩::r=>match Nat.beq j i with
  |true=>some ⟨some j,s',v,o,c⟩
  |false=>Kj i r
def mh (id:Nat):List Vr->Option Vr
 |[]=>none
 |⟨d,s',b,e,kd,T,n,ag,c0,st⟩::r=>match Nat.beq d id with
  |true=>some ⟨d,s',b,e,kd,T,n,ag,c0,st⟩
  |false=>mh id r
def Nh (ms:List Nat) (i s:Nat):List Vr->Option Vr
 |[]=>none
 |⟨d,s',b,e,kd,T,n,ag,c0,st⟩::r=>match Nat.beq s' s&&(rY ms i b&&ij ms i e)with
  |true=>some ⟨d,s',b,e,kd,T,n,ag,c0,st⟩
  |false=>Nh ms i s r
def BA (i:Nat):List Vr->Option Vr
 |[]=>none
 |⟨_,_,none,_,_,_,_,_,_,_⟩::r=>BA i r
 |⟨d,s',some j,e,kd,T,n,ag,c0,st⟩::r=>match Nat.beq j i with
  |true=>some ⟨d,s',some j,e,kd,T,n,ag,c0,st⟩
  |false=>BA i r
def R1 (i:Nat):List (Nat×Rel)->Option (Rel×List (Nat×Rel))
 |[]=>none
 |(j,q)::r=>match Nat.beq j i with
  |true=>some (q,r)
  |false=>R1 i r
theorem dZ {α:Type} {x:α} {r:List α} {y:α} (h:∃k:Nat,r[k]?=some y):∃k:Nat,(x::r)[k]?=some y:=h.elim λk hk=>⟨k+1,hk⟩
variable {ms:List Nat} {i s:Nat} {p:Pred}
theorem Fz:∀{G:List bf},DY ms i s G=some p->∃t f,(∃k:Nat,G[k]?=some ⟨t,f,s,p⟩)/\(rY ms i t&&ij ms i f)=true:=by
 intro G
 induction G with
 |nil=>intro h; cases h
 |cons e r ih=>
  intro h
  obtain⟨t,f,s',p'⟩:=e
  unfold DY at h
  split at h
  ·rename_i hb
   rw[Bool.and_eq_true]at hb
   have h1:=Nat.eq_of_beq_eq_true hb.1
   subst h1
   cases h
   exact⟨t,f,⟨0,rfl⟩,hb.2⟩
  ·obtain⟨t,f,hk,h2⟩:=ih h
   exact⟨t,f,dZ hk,h2⟩
variable {G:List bf}
theorem look (h:DY ms i s G=some p):Has ms G i (.tmp s) p:=by
 obtain⟨t,f,⟨k,hk⟩,h2⟩:=Fz h
 exact .tmp k hk h2
theorem post:∀{G:List bf},iL i G=some p->∃s f,∃k:Nat,G[k]?=some ⟨some i,f,s,p⟩:=by
 intro G
 induction G with
 |nil=>intro h; cases h
 |cons e r ih=>
  intro h
  obtain⟨t,f,s',p'⟩:=e
  cases t with
  |none=>obtain⟨s,f,hk⟩:=ih h; exact⟨s,f,dZ hk⟩
  |some j=>
   simp only[iL]at h
   split at h
   ·rename_i hb
    have hb:=Nat.eq_of_beq_eq_true hb
    subst hb
    cases h
    exact⟨s',f,0,rfl⟩
   ·obtain⟨s,f,hk⟩:=ih h; exact⟨s,f,dZ hk⟩
theorem pt (h:iL i G=some p):Post G i p:=by
 obtain⟨s,f,k,hk⟩:=post h
 exact .here k hk
variable {φ:Prop}
theorem Vx (hφ:φ) (h:iL i G=some (nW φ p)):Post G i p:=by
 obtain⟨s,f,k,hk⟩:=post h
 exact .Pg hφ k hk
theorem Xj (hφ:¬φ) (h:iL i G=some (nW φ p)):Post G i (bY undef):=by
 obtain⟨s,f,k,hk⟩:=post h
 exact .JA hφ k hk
theorem fE:∀{G:List bf},iP s G=some p->∃k:Nat,G[k]?=some ⟨none,none,s,p⟩:=by
 intro G
 induction G with
 |nil=>intro h; cases h
 |cons e r ih=>
  intro h
  obtain⟨t,f,s',p'⟩:=e
  cases t with
  |some _=>exact dZ (ih h)
  |none=>
   cases f with
   |some _=>exact dZ (ih h)
   |none=>
    simp only[iP]at h
    split at h
    ·rename_i hb
     have hb:=Nat.eq_of_beq_eq_true hb
     subst hb
     cases h
     exact⟨0,rfl⟩
    ·exact dZ (ih h)
variable {al:Al}
theorem sq:∀{A:List Al},JV ms i s A=some al->(∃k:Nat,A[k]?=some al)/\al.slot=s/\rY ms i al.tag=true:=by
 intro A
 induction A with
 |nil=>intro h; cases h
 |cons e r ih=>
  intro h
  obtain⟨t,s',v,o,c⟩:=e
  unfold JV at h
  split at h
  ·rename_i hb
   rw[Bool.and_eq_true]at hb
   cases h
   exact⟨⟨0,rfl⟩,Nat.eq_of_beq_eq_true hb.1,hb.2⟩
  ·obtain⟨h1,h2⟩:=ih h
   exact⟨dZ h1,h2⟩
theorem pc:∀{A:List Al},Kj i A=some al->(∃k:Nat,A[k]?=some al)/\al.tag=some i:=by
 intro A
 induction A with
 |nil=>intro h; cases h
 |cons e r ih=>
  intro h
  obtain⟨t,s',v,o,c⟩:=e
  cases t with
  |none=>obtain⟨h1,h2⟩:=ih h; exact⟨dZ h1,h2⟩
  |some j=>
   simp only[Kj]at h
   split at h
   ·rename_i hb
    have hb:=Nat.eq_of_beq_eq_true hb
    subst hb
    cases h
    exact⟨⟨0,rfl⟩,rfl⟩
   ·obtain⟨h1,h2⟩:=ih h; exact⟨dZ h1,h2⟩
variable {x:Vr}
theorem fM {id:Nat}:∀{V:List Vr},mh id V=some x->(∃k:Nat,V[k]?=some x)/\id=x.id:=by
 intro V
 induction V with
 |nil=>intro h; cases h
 |cons e r ih=>
  intro h
  obtain⟨d,s',b,e,kd,T,n,ag,c0,st⟩:=e
  unfold mh at h
  split at h
  ·rename_i hb
   cases h
   exact⟨⟨0,rfl⟩,(Nat.eq_of_beq_eq_true hb).symm⟩
  ·obtain⟨h1,h2⟩:=ih h
   exact⟨dZ h1,h2⟩
theorem qv:∀{V:List Vr},Nh ms i s V=some x->(∃k:Nat,V[k]?=some x)/\x.slot=s/\bS ms i x=true:=by
 intro V
 induction V with
 |nil=>intro h; cases h
 |cons e r ih=>
  intro h
  obtain⟨d,s',b,e,kd,T,n,ag,c0,st⟩:=e
  unfold Nh at h
  split at h
  ·rename_i hb
   rw[Bool.and_eq_true]at hb
   cases h
   exact⟨⟨0,rfl⟩,Nat.eq_of_beq_eq_true hb.1,hb.2⟩
  ·obtain⟨h1,h2⟩:=ih h
   exact⟨dZ h1,h2⟩
theorem gW:∀{V:List Vr},BA i V=some x->(∃k:Nat,V[k]?=some x)/\x.born=some i:=by
 intro V
 induction V with
 |nil=>intro h; cases h
 |cons e r ih=>
  intro h
  obtain⟨d,s',b,e,kd,T,n,ag,c0,st⟩:=e
  cases b with
  |none=>obtain⟨h1,h2⟩:=ih h; exact⟨dZ h1,h2⟩
  |some j=>
   simp only[BA]at h
   split at h
   ·rename_i hb
    have hb:=Nat.eq_of_beq_eq_true hb
    subst hb
    cases h
    exact⟨⟨0,rfl⟩,rfl⟩
   ·obtain⟨h1,h2⟩:=ih h; exact⟨dZ h1,h2⟩
theorem Ep {q:Rel} {r:List (Nat×Rel)}:∀{st:List (Nat×Rel)},R1 i st=some (q,r)->∃m,st[m]?=some (i,q)/\st.drop (m+1)=r:=by
 intro st
 induction st with
 |nil=>intro h; cases h
 |cons e l ih=>
  intro h
  obtain⟨j,q'⟩:=e
  unfold R1 at h
  split at h
  ·rename_i hb
   have hb:=Nat.eq_of_beq_eq_true hb
   subst hb
   cases h
   exact⟨0,rfl,rfl⟩
  ·obtain⟨m,h1,h2⟩:=ih h
   exact⟨m+1,h1,h2⟩
section
variable {P:Program} {ops:Array Oper} {ms:List Nat} {c:dS} {V:List Vr} {A:List Al} {G:List bf} {i:Nat}{d:Nat} {x y z:Operand} {ty:TypeId} {pos:String} {aJ:Array Edge}{t u:TypeId} {m n:Int} {k:IntKind}
theorem D9 (h1:Has ms G i x (bY (.int k m))) (h2:Has ms G i y (bY (.int k n))) (hp:Post G i (pB (decide (m<n)))):OpOk P ops ms c V A G i ⟨some d,.binOp .lss t x y u,ty,pos,aJ,none⟩:=fA h1 h2 (λ_=>by cases k<;>rfl) hp
theorem D8 (h1:Has ms G i x (bY (.int k m))) (h2:Has ms G i y (bY (.int k n))) (hp:Post G i (pB (decide (m<=n)))):OpOk P ops ms c V A G i ⟨some d,.binOp .leq t x y u,ty,pos,aJ,none⟩:=fA h1 h2 (λ_=>by cases k<;>rfl) hp
theorem D6 (h1:Has ms G i x (bY (.int k m))) (h2:Has ms G i y (bY (.int k n))) (hp:Post G i (pB (decide (m>n)))):OpOk P ops ms c V A G i ⟨some d,.binOp .gtr t x y u,ty,pos,aJ,none⟩:=fA h1 h2 (λ_=>by cases k<;>rfl) hp
theorem D5 (h1:Has ms G i x (bY (.int k m))) (h2:Has ms G i y (bY (.int k n))) (hp:Post G i (pB (decide (m>=n)))):OpOk P ops ms c V A G i ⟨some d,.binOp .geq t x y u,ty,pos,aJ,none⟩:=fA h1 h2 (λ_=>by cases k<;>rfl) hp
theorem MZ (h1:Has ms G i x (bY (.int k m))) (h2:Has ms G i y (bY (.int k n))) (hp:Post G i (pB (decide (m=n)))):OpOk P ops ms c V A G i ⟨some d,.binOp .eql t x y u,ty,pos,aJ,none⟩:=fA h1 h2 (v:=.bool (m==n)) (λ_=>by cases k<;>rfl) (by rw[show(m==n)=decide (m=n) by by_cases h:m=n<;>simp[h]]; exact hp)
theorem M7 (h1:Has ms G i x (bY (.int k m))) (h2:Has ms G i y (bY (.int k n))) (hp:Post G i (pB (decide (m≠n)))):OpOk P ops ms c V A G i ⟨some d,.binOp .neq t x y u,ty,pos,aJ,none⟩:=fA h1 h2 (v:=.bool (m != n)) (λ_=>by cases k<;>rfl) (by rw[show(m != n)=decide (m≠n) by by_cases h:m=n<;>simp[h]]; exact hp)
theorem D3 (h1:Has ms G i x (pI m)) (h2:Has ms G i y (pI n)) (hp:Post G i (pI (m+n))) (hr:-9223372036854775808<=m+n/\m+n<=9223372036854775807:=by omega):OpOk P ops ms c V A G i ⟨some d,.binOp .add t x y u,ty,pos,aJ,none⟩:=
 fA h1 h2 (v:=.int .i64 (IntKind.i64.wrap (m+n))) (λ_=>rfl) (by rw[IntWalk.i64_in _ hr]; exact hp)
theorem Eb (h1:Has ms G i x (pI m)) (h2:Has ms G i y (pI n)) (hp:Post G i (pI (m-n))) (hr:-9223372036854775808<=m-n/\m-n<=9223372036854775807:=by omega):OpOk P ops ms c V A G i ⟨some d,.binOp .sub t x y u,ty,pos,aJ,none⟩:=
 fA h1 h2 (v:=.int .i64 (IntKind.i64.wrap (m-n))) (λ_=>rfl) (by rw[IntWalk.i64_in _ hr]; exact hp)
theorem Ea (h1:Has ms G i x (pI m)) (h2:Has ms G i y (pI n)) (hp:Post G i (pI (m*n))) (hr:-9223372036854775808<=m*n/\m*n<=9223372036854775807:=by omega):OpOk P ops ms c V A G i ⟨some d,.binOp .mul t x y u,ty,pos,aJ,none⟩:=
 fA h1 h2 (v:=.int .i64 (IntKind.i64.wrap (m*n))) (λ_=>rfl) (by rw[IntWalk.i64_in _ hr]; exact hp)
variable {T:TypeId} {s:Nat} {v:Vr} {p:Pred}
theorem o_load (hv:Nh ms i s V=some v) (cI:v.kd=.ptr) (hst:(v.st.all λq=>(ms.getD i 0).testBit q.1||(ms.getD q.1 0).testBit i)=true)
  (hc:cont (λj=>(ms.getD i 0).testBit j) v.c0 v.st=pv p) (hp:Post G i p) (ht:Ty P T v.agg v.n):OpOk P ops ms c V A G i ⟨some d,.load T (.tmp s),ty,pos,aJ,none⟩:=by
 obtain⟨⟨k,hk⟩,h1,h2⟩:=qv hv
 exact bX k hk h1 h2 cI hst ht hc hp
variable {agg:Bool} {al:Al} {q:Pred}
theorem mX {n:Nat} (ha:JV ms i s A=some al) (hv:mh al.var V=some v) (ho:bS ms i v=true) (cI:v.kd=.ptr) (hst:(v.st.all λq=>(ms.getD i 0).testBit q.1||(ms.getD q.1 0).testBit i)=true)
  (hc:cont (λj=>(ms.getD i 0).testBit j) v.c0 v.st=pv p) (ht:Ty P T agg n) (hq:∀w cs,cs.length=v.n->p w (aq v.agg cs)->q w (aq agg ((cs.drop al.off).take n))) (hcd:al.cond) (hp:Post G i q) (hlen:decide (al.off+n<=v.n)=true):OpOk P ops ms c V A G i ⟨some d,.load T (.tmp s),ty,pos,aJ,none⟩:=by
 obtain⟨⟨k2,hk2⟩,h1,h2⟩:=sq ha
 obtain⟨⟨k,hk⟩,h3⟩:=fM hv
 exact cj k hk k2 hk2 h1 h3 rfl h2 hcd ho cI hst ht hlen hc hq hp
variable {S f off:Nat}
theorem D4 (ha:Kj i A=some al) (hv:mh al.var V=some v) (ho:bS ms i v=true) (cI:v.kd=.ptr) (hs:v.slot=s)
  (hf:∀b w,(Instr.fieldAt S (.pointer (some ⟨b,0,none⟩)) f).run P w=.ok (.pointer (some ⟨b,off,none⟩)) w) (fo:al.off=off) (hu:(A.filter λq=>q.tag==some i).length=1) (hno:(G.all λe=>e.tag != some i)=true):
  OpOk P ops ms c V A G i ⟨some d,.fieldAddr S (.tmp s) f,ty,pos,aJ,none⟩:=by
 obtain⟨⟨k2,hk2⟩,h1⟩:=pc ha
 obtain⟨⟨k,hk⟩,h3⟩:=fM hv
 exact aX k hk ho cI k2 hk2 h1 h3 fo (.inl ⟨hs.symm,rfl⟩) hu hno hf
variable {qw:Al}
theorem xe (ha:Kj i A=some al) (ha0:JV ms i s A=some qw) (hv:mh al.var V=some v) (hv0:qw.var=al.var) (ho:bS ms i v=true) (cI:v.kd=.ptr)
  (hf:∀b w,(Instr.fieldAt S (.pointer (some ⟨b,qw.off,none⟩)) f).run P w=.ok (.pointer (some ⟨b,off,none⟩)) w) (fo:al.off=off) (hcd:qw.cond) (hu:(A.filter λq=>q.tag==some i).length=1) (hno:(G.all λe=>e.tag != some i)=true):
  OpOk P ops ms c V A G i ⟨some d,.fieldAddr S (.tmp s) f,ty,pos,aJ,none⟩:=by
 obtain⟨⟨k2,hk2⟩,h1⟩:=pc ha
 obtain⟨⟨k3,hk3⟩,h4,h5⟩:=sq ha0
 obtain⟨⟨k,hk⟩,h3⟩:=fM hv
 exact aX k hk ho cI k2 hk2 h1 h3 fo (.inr ⟨k3,qw,hk3,h4,hv0.trans h3,rfl,h5,hcd⟩) hu hno hf
theorem D7 (ha:Kj i A=some al) (hv:mh al.var V=some v) (ho:bS ms i v=true) (cI:v.kd=.ptr) (hs:v.slot=s) (QZ:Has ms G i y (pI n))
  (hf:∀b w,(Instr.indexAt S (.pointer (some ⟨b,0,none⟩)) (.int .i64 n)).run P w=.ok (.pointer (some ⟨b,off,none⟩)) w) (fo:al.off=off) (hu:(A.filter λq=>q.tag==some i).length=1) (hno:(G.all λe=>e.tag != some i)=true):
  OpOk P ops ms c V A G i ⟨some d,.indexAddr S (.tmp s) y,ty,pos,aJ,none⟩:=by
 obtain⟨⟨k2,hk2⟩,h1⟩:=pc ha
 obtain⟨⟨k,hk⟩,h3⟩:=fM hv
 exact AR k hk ho cI k2 hk2 h1 h3 fo (.inl ⟨hs.symm,rfl⟩) hu hno QZ hf
theorem xg (ha:Kj i A=some al) (ha0:JV ms i s A=some qw) (hv:mh al.var V=some v) (hv0:qw.var=al.var) (ho:bS ms i v=true) (cI:v.kd=.ptr) (QZ:Has ms G i y (pI n))
  (hf:∀b w,(Instr.indexAt S (.pointer (some ⟨b,qw.off,none⟩)) (.int .i64 n)).run P w=.ok (.pointer (some ⟨b,off,none⟩)) w) (fo:al.off=off) (hcd:qw.cond) (hu:(A.filter λq=>q.tag==some i).length=1) (hno:(G.all λe=>e.tag != some i)=true):
  OpOk P ops ms c V A G i ⟨some d,.indexAddr S (.tmp s) y,ty,pos,aJ,none⟩:=by
 obtain⟨⟨k2,hk2⟩,h1⟩:=pc ha
 obtain⟨⟨k3,hk3⟩,h4,h5⟩:=sq ha0
 obtain⟨⟨k,hk⟩,h3⟩:=fM hv
 exact AR k hk ho cI k2 hk2 h1 h3 fo (.inr ⟨k3,qw,hk3,h4,hv0.trans h3,rfl,h5,hcd⟩) hu hno QZ hf
variable {r:List (Nat×Rel)}
theorem pW (hv:Nh ms i s V=some v) (cI:v.kd=.ptr) (h:Has ms G i y p) (hm:R1 i v.st=some (pv p,r)) (hr:(r.all λr=>(ms.getD r.1 0).testBit i)=true) (ht:Ty P T v.agg v.n) (hf:Fits v.n v.agg p)
  (vN:(V.all λy=>y.id==v.id||y.st.all λq=>q.1 != i)=true):OpOk P ops ms c V A G i ⟨none,.store T (.tmp s) y,ty,pos,aJ,none⟩:=by
 obtain⟨⟨k,hk⟩,h1,h2⟩:=qv hv
 obtain⟨m,h3,h4⟩:=Ep hm
 exact bG k hk h1 h2 cI m h3 (by rw[h4]; exact hr) vN ht h hf
theorem xh {n:Nat} {q0:Pred} (ha:JV ms i s A=some al) (hv:mh al.var V=some v) (ho:bS ms i v=true) (cI:v.kd=.ptr) (hst:(v.st.all λq=>q.1==i||((ms.getD i 0).testBit q.1||(ms.getD q.1 0).testBit i))=true)
  (hc:cont (λj=>(ms.getD i 0).testBit j) v.c0 v.st=pv q0) (h:Has ms G i y p) (ht:Ty P T agg n) (hq:∀w cs ds,cs.length=v.n->ds.length=n->q0 w (aq v.agg cs)->p w (aq agg ds)->q w (aq v.agg (cs.take al.off++ds++cs.drop (al.off+n))))
  (hm:R1 i v.st=some (pv q,r)) (hr:(r.all λr=>(ms.getD r.1 0).testBit i)=true) (hcd:al.cond) (hf:Fits n agg p) (hlen:decide (al.off+n<=v.n)=true)
  (vN:(V.all λy=>y.id==v.id||y.st.all λq=>q.1 != i)=true):OpOk P ops ms c V A G i ⟨none,.store T (.tmp s) y,ty,pos,aJ,none⟩:=by
 obtain⟨⟨k2,hk2⟩,h1,h2⟩:=sq ha
 obtain⟨⟨k,hk⟩,h3⟩:=fM hv
 obtain⟨m,h5,h6⟩:=Ep hm
 exact CE k hk k2 hk2 h1 h3 rfl h2 hcd ho cI hst m h5 (by rw[h6]; exact hr) vN ht hlen hc h hf hq
theorem Lu (l:List Zl) (hv:BA i V=some v) (hT:v.T=T) (cI:v.kd=.ptr) (hc:v.c0=pv (pS (l.map Zl.fd))) (Af:v.agg=true)
  (hz:∀w,(zeroValue T).run P w=.ok (.agg (l.flatMap Zl.cs).toArray) w) (hl:(l.flatMap Zl.cs).length=v.n) (hst:((v.st.all λq=>(ms.getD q.1 0).testBit i)&&V.all λy=>y.dead != some i)=true) (hno:(G.all λe=>e.tag != some i)=true) (fo:(A.all λp=>p.var != v.id||p.tag.any λj=>(ms.getD j 0).testBit i)=true):
  OpOk P ops ms c V A G i ⟨some d,.alloc T,ty,pos,aJ,none⟩:=by
 obtain⟨⟨k,hk⟩,hb⟩:=gW hv
 exact ct k hk hb hst hno fo hT cI hz rfl hl (C7 l) hc λw=>by rw[Af]; exact zf l w
theorem I5 (l:Zl) {z:Value} (hl:l.cs=[z]) (hv:BA i V=some v) (hT:v.T=T) (cI:v.kd=.ptr) (hc:v.c0=pv l.fd.p) (Af:v.agg=false) (hn:v.n=1)
  (hz:∀w,(zeroValue T).run P w=.ok z w) (yB:z.cells=[z].toArray) (hp:∀w,l.fd.p w z) (hst:((v.st.all λq=>(ms.getD q.1 0).testBit i)&&V.all λy=>y.dead != some i)=true) (hno:(G.all λe=>e.tag != some i)=true) (fo:(A.all λp=>p.var != v.id||p.tag.any λj=>(ms.getD j 0).testBit i)=true):
  OpOk P ops ms c V A G i ⟨some d,.alloc T,ty,pos,aJ,none⟩:=by
 obtain⟨⟨k,hk⟩,hb⟩:=gW hv
 exact ct k hk hb hst hno fo hT cI hz yB hn.symm (λu hu=>C7 [l] u (by simpa [hl] using hu)) hc λw=>by rw[Af]; exact hp w
theorem RM (hv:BA i V=some v) (hT:v.T=T) (cI:v.kd=.ptr) (h:Has ms G i x p) (hc:v.c0=pv p) (hf:Fits v.n v.agg p) (hst:((v.st.all λq=>(ms.getD q.1 0).testBit i)&&V.all λy=>y.dead != some i)=true) (hno:(G.all λe=>e.tag != some i)=true) (fo:(A.all λp=>p.var != v.id||p.tag.any λj=>(ms.getD j 0).testBit i)=true):
  OpOk P ops ms c V A G i ⟨some d,.box T x,ty,pos,aJ,none⟩:=by
 obtain⟨⟨k,hk⟩,hb⟩:=gW hv
 exact dQ k hk hb hst hno fo hT cI h hf hc
variable {j:Nat} {b cb:Bool} {op:Op} {dst:Option Nat}
theorem Vq (hg:iL j G=some (pB cb)) (h:cb=b->OpOk P ops ms c V A G i ⟨dst,op,ty,pos,aJ,none⟩) (hA:¬cb=b->vw A i) (hp:¬cb=b->Post G i (bY undef))
  (hj:(G.all λe=>e.tag != some j||((ms.getD i 0).testBit j&&ij ms i e.till))=true) (hb:(V.all λx=>(x.born != some i&&x.dead != some i)&&x.st.all λq=>q.1 != i)=true):OpOk P ops ms c V A G i ⟨dst,op,ty,pos,aJ,some (j,b)⟩:=by
 obtain⟨s,f,k,hk⟩:=post hg
 have:=List.all_eq_true.1 hj _ (List.mem_of_getElem? hk)
 exact I6 k hk (by simpa using this) h hb hA hp
theorem RN {φ:Prop} [Decidable φ] {op:Op} {dst:Option Nat} (hg:iL j G=some (nW φ (pB cb))) (h:φ/\cb=b->OpOk P ops ms c V A G i ⟨dst,op,ty,pos,aJ,none⟩) (hA:¬(φ/\cb=b)->vw A i) (hp:¬(φ/\cb=b)->Post G i (bY undef))
  (hj:(G.all λe=>e.tag != some j||((ms.getD i 0).testBit j&&ij ms i e.till))=true) (hb:(V.all λx=>(x.born != some i&&x.dead != some i)&&x.st.all λq=>q.1 != i)=true):OpOk P ops ms c V A G i ⟨dst,op,ty,pos,aJ,some (j,b)⟩:=by
 obtain⟨s,f,k,hk⟩:=post hg
 have:=List.all_eq_true.1 hj _ (List.mem_of_getElem? hk)
 exact OX k hk (by simpa using this) h hb hA hp
theorem RQ (hg:iL j G=some (pB cb)) (hcb:cb=b) (h:OpOk P ops ms c V A G i ⟨dst,op,ty,pos,aJ,none⟩)
  (hj:(G.all λe=>e.tag != some j||((ms.getD i 0).testBit j&&ij ms i e.till))=true):OpOk P ops ms c V A G i ⟨dst,op,ty,pos,aJ,some (j,b)⟩:=by
 obtain⟨s,f,k,hk⟩:=post hg
 have:=List.all_eq_true.1 hj _ (List.mem_of_getElem? hk)
 subst hcb
 exact O0 k hk (by simpa using this) h
end
end Wx
