import Derived.Test.YtadigiledciihaaGreatJRB21
namespace Wx
open Go Go.RowKit
def Ct (ms:List Nat) (i s:Nat):List aX->Option Pred
 |[]=>none
 |⟨t,f,s',p⟩::r=>match Nat.beq s' s&&(qM ms i t&&lN ms i f)with
  |true=>some p
  |false=>Ct ms i s r
def mO (i:Nat):List aX->Option Pred
 |[]=>none
 |⟨none,_,_,_⟩::r=>mO i r
 |⟨some j,_,_,p⟩::r=>match Nat.beq j i with
  |true=>some p
  |false=>mO i r
def gL (s:Nat):List aX->Option Pred
 |[]=>none
 |⟨none,none,s',p⟩::r=>match Nat.beq s' s with
  |true=>some p
  |false=>gL s r
 |_::r=>gL s r
def Ij (ms:List Nat) (i s:Nat):List Al->Option Al
 |[]=>none
 |⟨t,s',v,o,c⟩::r=>match Nat.beq s' s&&qM ms i t with
  |true=>some ⟨t,s',v,o,c⟩
  |false=>Ij ms i s r
def Ik (i:Nat):List Al->Option Al
 |[]=>none
 |⟨none,_,_,_,_⟩::r=>Ik i r
 |⟨some j,s',v,o,c⟩::r=>match Nat.beq j i with
  |true=>some ⟨some j,s',v,o,c⟩
  |false=>Ik i r
def lW (id:Nat):List Vr->Option Vr
 |[]=>none
 |⟨d,s',b,e,kd,T,n,ag,c0,st⟩::r=>match Nat.beq d id with
  |true=>some ⟨d,s',b,e,kd,T,n,ag,c0,st⟩
  |false=>lW id r
def KY (ms:List Nat) (i s:Nat):List Vr->Option Vr
 |[]=>none
 |⟨d,s',b,e,kd,T,n,ag,c0,st⟩::r=>match Nat.beq s' s&&(qM ms i b&&lN ms i e)with
  |true=>some ⟨d,s',b,e,kd,T,n,ag,c0,st⟩
  |false=>KY ms i s r
def zT (i:Nat):List Vr->Option Vr
 |[]=>none
 |⟨_,_,none,_,_,_,_,_,_,_⟩::r=>zT i r
 |⟨d,s',some j,e,kd,T,n,ag,c0,st⟩::r=>match Nat.beq j i with
  |true=>some ⟨d,s',some j,e,kd,T,n,ag,c0,st⟩
  |false=>zT i r
def Nw (i:Nat):List (Nat×Rel)->Option (Rel×List (Nat×Rel))
 |[]=>none
 |(j,q)::r=>match Nat.beq j i with
  |true=>some (q,r)
  |false=>Nw i r
theorem di {α:Type} {x:α} {r:List α} {y:α} (h:∃k:Nat,r[k]?=some y):∃k:Nat,(x::r)[k]?=some y:=h.elim λk hk=>⟨k+1,hk⟩
variable {ms:List Nat} {i s:Nat} {p:Pred}
theorem DG:∀{G:List aX},Ct ms i s G=some p->∃t f,(∃k:Nat,G[k]?=some ⟨t,f,s,p⟩)/\(qM ms i t&&lN ms i f)=true:=by
 intro G
 induction G with
 |nil=>intro h; cases h
 |cons e r ih=>
  intro h
  obtain⟨t,f,s',p'⟩:=e
  unfold Ct at h
  split at h
  ·rename_i hb
   rw[Bool.and_eq_true]at hb
   have h1:=Nat.eq_of_beq_eq_true hb.1
   subst h1
   cases h
   exact⟨t,f,⟨0,rfl⟩,hb.2⟩
  ·obtain⟨t,f,hk,h2⟩:=ih h
   exact⟨t,f,di hk,h2⟩
variable {G:List aX}
theorem look (h:Ct ms i s G=some p):Has ms G i (.tmp s) p:=by
 obtain⟨t,f,⟨k,hk⟩,h2⟩:=DG h
 exact .tmp k hk h2
theorem post:∀{G:List aX},mO i G=some p->∃s f,∃k:Nat,G[k]?=some ⟨some i,f,s,p⟩:=by
 intro G
 induction G with
 |nil=>intro h; cases h
 |cons e r ih=>
  intro h
  obtain⟨t,f,s',p'⟩:=e
  cases t with
  |none=>obtain⟨s,f,hk⟩:=ih h; exact⟨s,f,di hk⟩
  |some j=>
   simp only[mO]at h
   split at h
   ·rename_i hb
    have hb:=Nat.eq_of_beq_eq_true hb
    subst hb
    cases h
    exact⟨s',f,0,rfl⟩
   ·obtain⟨s,f,hk⟩:=ih h; exact⟨s,f,di hk⟩
theorem pt (h:mO i G=some p):Post G i p:=by
 obtain⟨s,f,k,hk⟩:=post h
 exact .here k hk
variable {φ:Prop}
theorem WJ (hφ:φ) (h:mO i G=some (um φ p)):Post G i p:=by
 obtain⟨s,f,k,hk⟩:=post h
 exact .Nu hφ k hk
theorem WI (hφ:¬φ) (h:mO i G=some (um φ p)):Post G i (bR undef):=by
 obtain⟨s,f,k,hk⟩:=post h
 exact .Na hφ k hk
theorem eG:∀{G:List aX},gL s G=some p->∃k:Nat,G[k]?=some ⟨none,none,s,p⟩:=by
 intro G
 induction G with
 |nil=>intro h; cases h
 |cons e r ih=>
  intro h
  obtain⟨t,f,s',p'⟩:=e
  cases t with
  |some _=>exact di (ih h)
  |none=>
   cases f with
   |some _=>exact di (ih h)
   |none=>
    simp only[gL]at h
    split at h
    ·rename_i hb
     have hb:=Nat.eq_of_beq_eq_true hb
     subst hb
     cases h
     exact⟨0,rfl⟩
    ·exact di (ih h)
variable {al:Al}
theorem qT:∀{A:List Al},Ij ms i s A=some al->(∃k:Nat,A[k]?=some al)/\al.slot=s/\qM ms i al.tag=true:=by
 intro A
 induction A with
 |nil=>intro h; cases h
 |cons e r ih=>
  intro h
  obtain⟨t,s',v,o,c⟩:=e
  unfold Ij at h
  split at h
  ·rename_i hb
   rw[Bool.and_eq_true]at hb
   cases h
   exact⟨⟨0,rfl⟩,Nat.eq_of_beq_eq_true hb.1,hb.2⟩
  ·obtain⟨h1,h2⟩:=ih h
   exact⟨di h1,h2⟩
theorem nL:∀{A:List Al},Ik i A=some al->(∃k:Nat,A[k]?=some al)/\al.tag=some i:=by
 intro A
 induction A with
 |nil=>intro h; cases h
 |cons e r ih=>
  intro h
  obtain⟨t,s',v,o,c⟩:=e
  cases t with
  |none=>obtain⟨h1,h2⟩:=ih h; exact⟨di h1,h2⟩
  |some j=>
   simp only[Ik]at h
   split at h
   ·rename_i hb
    have hb:=Nat.eq_of_beq_eq_true hb
    subst hb
    cases h
    exact⟨⟨0,rfl⟩,rfl⟩
   ·obtain⟨h1,h2⟩:=ih h; exact⟨di h1,h2⟩
variable {x:Vr}
theorem eR {id:Nat}:∀{V:List Vr},lW id V=some x->(∃k:Nat,V[k]?=some x)/\id=x.id:=by
 intro V
 induction V with
 |nil=>intro h; cases h
 |cons e r ih=>
  intro h
  obtain⟨d,s',b,e,kd,T,n,ag,c0,st⟩:=e
  unfold lW at h
  split at h
  ·rename_i hb
   cases h
   exact⟨⟨0,rfl⟩,(Nat.eq_of_beq_eq_true hb).symm⟩
  ·obtain⟨h1,h2⟩:=ih h
   exact⟨di h1,h2⟩
theorem oM:∀{V:List Vr},KY ms i s V=some x->(∃k:Nat,V[k]?=some x)/\x.slot=s/\bE ms i x=true:=by
 intro V
 induction V with
 |nil=>intro h; cases h
 |cons e r ih=>
  intro h
  obtain⟨d,s',b,e,kd,T,n,ag,c0,st⟩:=e
  unfold KY at h
  split at h
  ·rename_i hb
   rw[Bool.and_eq_true]at hb
   cases h
   exact⟨⟨0,rfl⟩,Nat.eq_of_beq_eq_true hb.1,hb.2⟩
  ·obtain⟨h1,h2⟩:=ih h
   exact⟨di h1,h2⟩
theorem gg:∀{V:List Vr},zT i V=some x->(∃k:Nat,V[k]?=some x)/\x.born=some i:=by
 intro V
 induction V with
 |nil=>intro h; cases h
 |cons e r ih=>
  intro h
  obtain⟨d,s',b,e,kd,T,n,ag,c0,st⟩:=e
  cases b with
  |none=>obtain⟨h1,h2⟩:=ih h; exact⟨di h1,h2⟩
  |some j=>
   simp only[zT]at h
   split at h
   ·rename_i hb
    have hb:=Nat.eq_of_beq_eq_true hb
    subst hb
    cases h
    exact⟨⟨0,rfl⟩,rfl⟩
   ·obtain⟨h1,h2⟩:=ih h; exact⟨di h1,h2⟩
theorem CJ {q:Rel} {r:List (Nat×Rel)}:∀{st:List (Nat×Rel)},Nw i st=some (q,r)->∃m,st[m]?=some (i,q)/\st.drop (m+1)=r:=by
 intro st
 induction st with
 |nil=>intro h; cases h
 |cons e l ih=>
  intro h
  obtain⟨j,q'⟩:=e
  unfold Nw at h
  split at h
  ·rename_i hb
   have hb:=Nat.eq_of_beq_eq_true hb
   subst hb
   cases h
   exact⟨0,rfl,rfl⟩
  ·obtain⟨m,h1,h2⟩:=ih h
   exact⟨m+1,h1,h2⟩
section
variable {P:Program} {ops:Array Oper} {ms:List Nat} {c:dg} {V:List Vr} {A:List Al} {G:List aX} {i:Nat}{d:Nat} {x y z:Operand} {ty:TypeId} {pos:String} {aI:Array Edge}{t u:TypeId} {m n:Int} {k:IntKind}
theorem KJ (h1:Has ms G i x (bR (.int k m))) (h2:Has ms G i y (bR (.int k n))) (hp:Post G i (pB (decide (m<n)))):OpOk P ops ms c V A G i ⟨some d,.binOp .lss t x y u,ty,pos,aI,none⟩:=gD h1 h2 (λ_=>by cases k<;>rfl) hp
theorem KI (h1:Has ms G i x (bR (.int k m))) (h2:Has ms G i y (bR (.int k n))) (hp:Post G i (pB (decide (m<=n)))):OpOk P ops ms c V A G i ⟨some d,.binOp .leq t x y u,ty,pos,aI,none⟩:=gD h1 h2 (λ_=>by cases k<;>rfl) hp
theorem KG (h1:Has ms G i x (bR (.int k m))) (h2:Has ms G i y (bR (.int k n))) (hp:Post G i (pB (decide (m>n)))):OpOk P ops ms c V A G i ⟨some d,.binOp .gtr t x y u,ty,pos,aI,none⟩:=gD h1 h2 (λ_=>by cases k<;>rfl) hp
theorem KF (h1:Has ms G i x (bR (.int k m))) (h2:Has ms G i y (bR (.int k n))) (hp:Post G i (pB (decide (m>=n)))):OpOk P ops ms c V A G i ⟨some d,.binOp .geq t x y u,ty,pos,aI,none⟩:=gD h1 h2 (λ_=>by cases k<;>rfl) hp
theorem KE (h1:Has ms G i x (bR (.int k m))) (h2:Has ms G i y (bR (.int k n))) (hp:Post G i (pB (decide (m=n)))):OpOk P ops ms c V A G i ⟨some d,.binOp .eql t x y u,ty,pos,aI,none⟩:=gD h1 h2 (v:=.bool (m==n)) (λ_=>by cases k<;>rfl) (by rw[show(m==n)=decide (m=n) by by_cases h:m=n<;>simp[h]]; exact hp)
theorem KM (h1:Has ms G i x (bR (.int k m))) (h2:Has ms G i y (bR (.int k n))) (hp:Post G i (pB (decide (m≠n)))):OpOk P ops ms c V A G i ⟨some d,.binOp .neq t x y u,ty,pos,aI,none⟩:=gD h1 h2 (v:=.bool (m != n)) (λ_=>by cases k<;>rfl) (by rw[show(m != n)=decide (m≠n) by by_cases h:m=n<;>simp[h]]; exact hp)
theorem KD (h1:Has ms G i x (pI m)) (h2:Has ms G i y (pI n)) (hp:Post G i (pI (m+n))) (hr:-9223372036854775808<=m+n/\m+n<=9223372036854775807:=by omega):OpOk P ops ms c V A G i ⟨some d,.binOp .add t x y u,ty,pos,aI,none⟩:=
 gD h1 h2 (v:=.int .i64 (IntKind.i64.wrap (m+n))) (λ_=>rfl) (by rw[IntWalk.i64_in _ hr]; exact hp)
theorem KN (h1:Has ms G i x (pI m)) (h2:Has ms G i y (pI n)) (hp:Post G i (pI (m-n))) (hr:-9223372036854775808<=m-n/\m-n<=9223372036854775807:=by omega):OpOk P ops ms c V A G i ⟨some d,.binOp .sub t x y u,ty,pos,aI,none⟩:=
 gD h1 h2 (v:=.int .i64 (IntKind.i64.wrap (m-n))) (λ_=>rfl) (by rw[IntWalk.i64_in _ hr]; exact hp)
theorem KL (h1:Has ms G i x (pI m)) (h2:Has ms G i y (pI n)) (hp:Post G i (pI (m*n))) (hr:-9223372036854775808<=m*n/\m*n<=9223372036854775807:=by omega):OpOk P ops ms c V A G i ⟨some d,.binOp .mul t x y u,ty,pos,aI,none⟩:=
 gD h1 h2 (v:=.int .i64 (IntKind.i64.wrap (m*n))) (λ_=>rfl) (by rw[IntWalk.i64_in _ hr]; exact hp)
variable {T:TypeId} {s:Nat} {v:Vr} {p:Pred}
theorem o_load (hv:KY ms i s V=some v) (cg:v.kd=.ptr) (hst:(v.st.all λq=>(ms.getD i 0).testBit q.1||(ms.getD q.1 0).testBit i)=true)
  (hc:cont (λj=>(ms.getD i 0).testBit j) v.c0 v.st=pv p) (hp:Post G i p) (ht:Ty P T v.agg v.n):OpOk P ops ms c V A G i ⟨some d,.load T (.tmp s),ty,pos,aI,none⟩:=by
 obtain⟨⟨k,hk⟩,h1,h2⟩:=oM hv
 exact ou k hk h1 h2 cg hst ht hc hp
variable {agg:Bool} {al:Al} {q:Pred}
theorem sX {n:Nat} (ha:Ij ms i s A=some al) (hv:lW al.var V=some v) (ho:bE ms i v=true) (cg:v.kd=.ptr) (hst:(v.st.all λq=>(ms.getD i 0).testBit q.1||(ms.getD q.1 0).testBit i)=true)
  (hc:cont (λj=>(ms.getD i 0).testBit j) v.c0 v.st=pv p) (ht:Ty P T agg n) (hq:∀w cs,cs.length=v.n->p w (ak v.agg cs)->q w (ak agg ((cs.drop al.off).take n))) (hcd:al.cond) (hp:Post G i q) (hlen:decide (al.off+n<=v.n)=true):OpOk P ops ms c V A G i ⟨some d,.load T (.tmp s),ty,pos,aI,none⟩:=by
 obtain⟨⟨k2,hk2⟩,h1,h2⟩:=qT ha
 obtain⟨⟨k,hk⟩,h3⟩:=eR hv
 exact bL k hk k2 hk2 h1 h3 rfl h2 hcd ho cg hst ht hlen hc hq hp
variable {S f off:Nat}
theorem Cw (ha:Ik i A=some al) (hv:lW al.var V=some v) (ho:bE ms i v=true) (cg:v.kd=.ptr) (hs:v.slot=s)
  (hf:∀b w,(Instr.fieldAt S (.pointer (some ⟨b,0,none⟩)) f).run P w=.ok (.pointer (some ⟨b,off,none⟩)) w) (eu:al.off=off) (hu:(A.filter λq=>q.tag==some i).length=1) (hno:(G.all λe=>e.tag != some i)=true):
  OpOk P ops ms c V A G i ⟨some d,.fieldAddr S (.tmp s) f,ty,pos,aI,none⟩:=by
 obtain⟨⟨k2,hk2⟩,h1⟩:=nL ha
 obtain⟨⟨k,hk⟩,h3⟩:=eR hv
 exact bU k hk ho cg k2 hk2 h1 h3 eu (.inl ⟨hs.symm,rfl⟩) hu hno hf
variable {oO:Al}
theorem ve (ha:Ik i A=some al) (ha0:Ij ms i s A=some oO) (hv:lW al.var V=some v) (hv0:oO.var=al.var) (ho:bE ms i v=true) (cg:v.kd=.ptr)
  (hf:∀b w,(Instr.fieldAt S (.pointer (some ⟨b,oO.off,none⟩)) f).run P w=.ok (.pointer (some ⟨b,off,none⟩)) w) (eu:al.off=off) (hcd:oO.cond) (hu:(A.filter λq=>q.tag==some i).length=1) (hno:(G.all λe=>e.tag != some i)=true):
  OpOk P ops ms c V A G i ⟨some d,.fieldAddr S (.tmp s) f,ty,pos,aI,none⟩:=by
 obtain⟨⟨k2,hk2⟩,h1⟩:=nL ha
 obtain⟨⟨k3,hk3⟩,h4,h5⟩:=qT ha0
 obtain⟨⟨k,hk⟩,h3⟩:=eR hv
 exact bU k hk ho cg k2 hk2 h1 h3 eu (.inr ⟨k3,oO,hk3,h4,hv0.trans h3,rfl,h5,hcd⟩) hu hno hf
theorem Cx (ha:Ik i A=some al) (hv:lW al.var V=some v) (ho:bE ms i v=true) (cg:v.kd=.ptr) (hs:v.slot=s) (OG:Has ms G i y (pI n))
  (hf:∀b w,(Instr.indexAt S (.pointer (some ⟨b,0,none⟩)) (.int .i64 n)).run P w=.ok (.pointer (some ⟨b,off,none⟩)) w) (eu:al.off=off) (hu:(A.filter λq=>q.tag==some i).length=1) (hno:(G.all λe=>e.tag != some i)=true):
  OpOk P ops ms c V A G i ⟨some d,.indexAddr S (.tmp s) y,ty,pos,aI,none⟩:=by
 obtain⟨⟨k2,hk2⟩,h1⟩:=nL ha
 obtain⟨⟨k,hk⟩,h3⟩:=eR hv
 exact zj k hk ho cg k2 hk2 h1 h3 eu (.inl ⟨hs.symm,rfl⟩) hu hno OG hf
theorem vf (ha:Ik i A=some al) (ha0:Ij ms i s A=some oO) (hv:lW al.var V=some v) (hv0:oO.var=al.var) (ho:bE ms i v=true) (cg:v.kd=.ptr) (OG:Has ms G i y (pI n))
  (hf:∀b w,(Instr.indexAt S (.pointer (some ⟨b,oO.off,none⟩)) (.int .i64 n)).run P w=.ok (.pointer (some ⟨b,off,none⟩)) w) (eu:al.off=off) (hcd:oO.cond) (hu:(A.filter λq=>q.tag==some i).length=1) (hno:(G.all λe=>e.tag != some i)=true):
  OpOk P ops ms c V A G i ⟨some d,.indexAddr S (.tmp s) y,ty,pos,aI,none⟩:=by
 obtain⟨⟨k2,hk2⟩,h1⟩:=nL ha
 obtain⟨⟨k3,hk3⟩,h4,h5⟩:=qT ha0
 obtain⟨⟨k,hk⟩,h3⟩:=eR hv
 exact zj k hk ho cg k2 hk2 h1 h3 eu (.inr ⟨k3,oO,hk3,h4,hv0.trans h3,rfl,h5,hcd⟩) hu hno OG hf
variable {r:List (Nat×Rel)}
theorem iQ (hv:KY ms i s V=some v) (cg:v.kd=.ptr) (h:Has ms G i y p) (hm:Nw i v.st=some (pv p,r)) (hr:(r.all λr=>(ms.getD r.1 0).testBit i)=true) (ht:Ty P T v.agg v.n) (hf:Fits v.n v.agg p)
  (qK:(V.all λy=>y.id==v.id||y.st.all λq=>q.1 != i)=true):OpOk P ops ms c V A G i ⟨none,.store T (.tmp s) y,ty,pos,aI,none⟩:=by
 obtain⟨⟨k,hk⟩,h1,h2⟩:=oM hv
 obtain⟨m,h3,h4⟩:=CJ hm
 exact iC k hk h1 h2 cg m h3 (by rw[h4]; exact hr) qK ht h hf
theorem pJ {n:Nat} {q0:Pred} (ha:Ij ms i s A=some al) (hv:lW al.var V=some v) (ho:bE ms i v=true) (cg:v.kd=.ptr) (hst:(v.st.all λq=>q.1==i||((ms.getD i 0).testBit q.1||(ms.getD q.1 0).testBit i))=true)
  (hc:cont (λj=>(ms.getD i 0).testBit j) v.c0 v.st=pv q0) (h:Has ms G i y p) (ht:Ty P T agg n) (hq:∀w cs ds,cs.length=v.n->ds.length=n->q0 w (ak v.agg cs)->p w (ak agg ds)->q w (ak v.agg (cs.take al.off++ds++cs.drop (al.off+n))))
  (hm:Nw i v.st=some (pv q,r)) (hr:(r.all λr=>(ms.getD r.1 0).testBit i)=true) (hcd:al.cond) (hf:Fits n agg p) (hlen:decide (al.off+n<=v.n)=true)
  (qK:(V.all λy=>y.id==v.id||y.st.all λq=>q.1 != i)=true):OpOk P ops ms c V A G i ⟨none,.store T (.tmp s) y,ty,pos,aI,none⟩:=by
 obtain⟨⟨k2,hk2⟩,h1,h2⟩:=qT ha
 obtain⟨⟨k,hk⟩,h3⟩:=eR hv
 obtain⟨m,h5,h6⟩:=CJ hm
 exact Bc k hk k2 hk2 h1 h3 rfl h2 hcd ho cg hst m h5 (by rw[h6]; exact hr) qK ht hlen hc h hf hq
theorem Jh (l:List Zl) (hv:zT i V=some v) (hT:v.T=T) (cg:v.kd=.ptr) (hc:v.c0=pv (pS (l.map Zl.fd))) (Aw:v.agg=true)
  (hz:∀w,(zeroValue T).run P w=.ok (.agg (l.flatMap Zl.cs).toArray) w) (hl:(l.flatMap Zl.cs).length=v.n) (hst:((v.st.all λq=>(ms.getD q.1 0).testBit i)&&V.all λy=>y.dead != some i)=true) (hno:(G.all λe=>e.tag != some i)=true) (eu:(A.all λp=>p.var != v.id||p.tag.any λj=>(ms.getD j 0).testBit i)=true):
  OpOk P ops ms c V A G i ⟨some d,.alloc T,ty,pos,aI,none⟩:=by
 obtain⟨⟨k,hk⟩,hb⟩:=gg hv
 exact jz k hk hb hst hno eu hT cg hz rfl hl (BI l) hc λw=>by rw[Aw]; exact xC l w
theorem Gk (l:Zl) {z:Value} (hl:l.cs=[z]) (hv:zT i V=some v) (hT:v.T=T) (cg:v.kd=.ptr) (hc:v.c0=pv l.fd.p) (Aw:v.agg=false) (hn:v.n=1)
  (hz:∀w,(zeroValue T).run P w=.ok z w) (wP:z.cells=[z].toArray) (hp:∀w,l.fd.p w z) (hst:((v.st.all λq=>(ms.getD q.1 0).testBit i)&&V.all λy=>y.dead != some i)=true) (hno:(G.all λe=>e.tag != some i)=true) (eu:(A.all λp=>p.var != v.id||p.tag.any λj=>(ms.getD j 0).testBit i)=true):
  OpOk P ops ms c V A G i ⟨some d,.alloc T,ty,pos,aI,none⟩:=by
 obtain⟨⟨k,hk⟩,hb⟩:=gg hv
 exact jz k hk hb hst hno eu hT cg hz wP hn.symm (λu hu=>BI [l] u (by simpa [hl] using hu)) hc λw=>by rw[Aw]; exact hp w
theorem Pr (hv:zT i V=some v) (hT:v.T=T) (cg:v.kd=.ptr) (h:Has ms G i x p) (hc:v.c0=pv p) (hf:Fits v.n v.agg p) (hst:((v.st.all λq=>(ms.getD q.1 0).testBit i)&&V.all λy=>y.dead != some i)=true) (hno:(G.all λe=>e.tag != some i)=true) (eu:(A.all λp=>p.var != v.id||p.tag.any λj=>(ms.getD j 0).testBit i)=true):
  OpOk P ops ms c V A G i ⟨some d,.box T x,ty,pos,aI,none⟩:=by
 obtain⟨⟨k,hk⟩,hb⟩:=gg hv
 exact tc k hk hb hst hno eu hT cg h hf hc
theorem SP {j:Nat} {b cb:Bool} {op:Op} {dst:Option Nat} (hg:mO j G=some (pB cb)) (h:cb=b->OpOk P ops ms c V A G i ⟨dst,op,ty,pos,aI,none⟩) (hA:¬cb=b->zU A i) (hp:¬cb=b->Post G i (bR undef))
  (hj:(G.all λe=>e.tag != some j||((ms.getD i 0).testBit j&&lN ms i e.till))=true) (hb:(V.all λx=>(x.born != some i&&x.dead != some i)&&x.st.all λq=>q.1 != i)=true):OpOk P ops ms c V A G i ⟨dst,op,ty,pos,aI,some (j,b)⟩:=by
 obtain⟨s,f,k,hk⟩:=post hg
 have:=List.all_eq_true.1 hj _ (List.mem_of_getElem? hk)
 exact Pu k hk (by simpa using this) h hb hA hp
end
end Wx

namespace Wx
open Go Go.RowKit
def PE (P:Program) (E:TypeId) (n:Nat):Bool:=match P.info? E with
 |some i=>Nat.beq i.size n
 |none=>false
variable {P:Program} {n:Nat}
theorem ru {E:TypeId} (h:PE P E n=true) (w:World):(Go.sizeOf E).run P w=.ok n w:=by
 unfold PE at h
 split at h
 ·rename_i i hi
  have:=Nat.eq_of_beq_eq_true h
  subst this
  simp[Go.sizeOf,typeInfo,hi]
 ·cases h
def Hi (P:Program) (T:TypeId) (ag:Bool) (n:Nat):Bool:=PE P T n&&((ag||Nat.beq n 1)&&match P.underlying T with
 |some (.struct _)|some (.array _ _)=>ag
 |some _=>!ag
 |none=>false)
variable {T:TypeId} {ag:Bool}
theorem bO (h:Hi P T ag n=true):Ty P T ag n:=by
 unfold Hi at h
 rw[Bool.and_eq_true,Bool.and_eq_true]at h
 obtain⟨h1,h2,h3⟩:=h
 refine⟨λw=>?_,ru h1,λe=>?_⟩
 ·cases hu:P.underlying T with
  |none=>rw[hu]at h3; cases h3
  |some u=>
   rw[hu]at h3
   have hr:=run_underlying hu w
   simp only[isAgg,Sem.run_bind,hr,Result.andThen_ok]
   cases u<;>simp at h3<;>subst h3<;>rfl
 ·subst e; rw[Bool.false_or]at h2; exact Nat.eq_of_beq_eq_true h2
class xE (P:Program) (T:TypeId) (ag:outParam Bool) (n:outParam Nat):Prop where
 ok:Ty P T ag n
def Ia (P:Program) (T:TypeId) (sz:Nat):Bool:=match P.underlying T with
 |some (.slice E)=>PE P E sz
 |_=>false
variable {sz:Nat}
theorem nD (h:Ia P T sz=true):∃E,mU P T E sz:=by
 unfold Ia at h
 split at h
 ·rename_i E hE; exact⟨E,hE,ru h⟩
 ·cases h
def IZ (P:Program) (T:TypeId):Bool:=match P.underlying T with
 |some (.slice _)=>true
 |_=>false
theorem Cq (h:IZ P T=true):∃E,P.underlying T=some (.slice E):=by
 unfold IZ at h
 split at h
 ·rename_i E hE; exact⟨E,hE⟩
 ·cases h
def Lj (P:Program) (T:TypeId) (len sz:Nat):Bool:=match P.underlying T with
 |some (.array n E)=>Nat.beq n len&&PE P E sz
 |_=>false
theorem xm {len:Nat} (h:Lj P T len sz=true) {b off:Nat} {m:Int} (h0:0<=m) (h1:m<len) (w:World):(Instr.indexAt T (.pointer (some ⟨b,off,none⟩)) (.int .i64 m)).run P w=.ok (.pointer (some ⟨b,off+m.toNat*sz,none⟩)) w:=by
 unfold Lj at h
 split at h
 ·rename_i n E hE
  rw[Bool.and_eq_true]at h
  have e:=Nat.eq_of_beq_eq_true h.1
  subst e
  have hu:(underlying T).run P w=.ok (.array n E) w:=run_underlying hE w
  simp only[Instr.indexAt,asIntOf,pure_bind,Sem.run_bind,hu,Result.andThen_ok,Instr.sureAddr]
  rw[if_pos ⟨h0,h1⟩]
  simp only[Sem.run_bind,ru h.2,Result.andThen_ok,Sem.run_pure,Addr.add_mid]
 ·cases h
variable {p:Pred}
theorem sq (h:Fits n ag p:=by
 first
 |exact eO
 |exact nU
 |exact fits_int _
 |exact fits_bool _
 |exact lp _
 |exact lq _
 |exact sr _ _ _
 |exact lu
 |exact yy _
 |exact ej (λ_=>eO) (by first|rfl|omega|(simp; omega))
 |exact ej (λ_=>nU) (by first|rfl|omega|(simp; omega))
 |exact lz (by repeat' (first|exact trivial|exact eO|exact nU|exact fits_int _|exact fits_bool _|exact sr _ _ _|exact lu|exact yy _|refine⟨?_,?_⟩)) rfl):Fits n ag p:=h
theorem AW (h:au p:=by
 first
 |exact ny
 |exact nx
 |exact cB _
 |exact sV λ_=>ny
 |exact sV λ_=>nx
 |exact dz _
 |exact dA _
 |exact gP ny (cB _)
 |exact gP nx (cB _)
 |exact gP (dz _) (cB _)
 |exact gP (dA _) (cB _)):au p:=h
variable {q:Pred}
theorem qX (h:∀w v,p w v->q w v:=by
 first
 |exactλ_ _ h=>h
 |exact vw (by omega)
 |exact vz (by omega)
 |exact dW.pV (by repeat' (first|exact dW.z|refine dW.c (by omega) ?_))
 |exactλ_ _ h=>h
 |exactλ_ _ h=>h.2):∀w v,p w v->q w v:=h
variable {i:Nat}
theorem Has.S2 {ms:List Nat} {G:List aX} {x:Operand} {φ ψ:Prop} (h:Has ms G i x (um (φ/\ψ) q)) (hφ:φ):Has ms G i x (um ψ q):=
 h.imp λ_ _ k=>⟨λhψ=>k.1 ⟨hφ,hψ⟩,λhψ=>k.2 λhh=>hψ hh.2⟩
theorem UU {A:List Al} {al:Al} (h:Ik i A=some al) (hn:¬al.cond) (hu:(A.filter λq=>q.tag==some i).length=1):zU A i:=by
 obtain⟨⟨k,hk⟩,ht⟩:=nL h
 exact .at_ k hk ht hu hn
def tm:Nat->Nat->List Nat
 |0,_=>[]
 |n+1,k=>k::tm n (2*k+1)
section
variable {P:Program} {ops:Array Oper} {ms:List Nat} {c:dg} {V:List Vr} {A:List Al} {G:List aX} {i:Nat}{d:Nat} {x y z:Operand} {ty:TypeId} {pos:String} {aI:Array Edge}{T:TypeId} {sz n:Nat} {agg:Bool} {f:Nat->Pred}
theorem KH (h:Has ms G i x (bk sz agg n f)) (hp:Post G i (pI (n:Int))) (ht:IZ P T=true):
  OpOk P ops ms c V A G i ⟨some d,.call ⟨.builtin .len,#[x],#[T]⟩,ty,pos,aI,none⟩:=(Cq ht).elim λ_ hE=>MI h hE hp
theorem kq {m:Int} (k:Nat) (h:Has ms G i x (bk sz agg n f)) (hy:Has ms G i y (pI m)) (hm:m=(k:Int)) (hp:Post G i (dP sz agg (f k))) (hk:k<n) (ht:Ia P T sz=true) (hA:(A.all λq=>q.tag != some i)=true):
  OpOk P ops ms c V A G i ⟨some d,.indexAddr T x y,ty,pos,aI,none⟩:=by
 obtain⟨E,hE⟩:=nD ht
 subst hm
 exact zk h hy hE (by omega) (by omega) hA (by rw[Int.toNat_natCast]; exact hp)
theorem fH {p:Pred} (h:Has ms G i x (dP sz agg p)) (hp:Post G i p) (ht:Hi P T agg sz=true) (hfit:Fits sz agg p):OpOk P ops ms c V A G i ⟨some d,.load T x,ty,pos,aI,none⟩:=
 Gn h (bO ht) hfit hp
variable {cb b2:Bool}
theorem Pq (h:Has ms G i x (pB cb)) (hy:Has ms G i y (um (cb=true) (pB b2))) (hz:Has ms G i z (pB false)) (hp:Post G i (pB (cb&&b2))):OpOk P ops ms c V A G i ⟨some d,.pick x y z,ty,pos,aI,none⟩:=
 CB h (λe=>(hy.Nu e).imp λ_ _ k=>by rw[e]; exact k) (λe=>hz.imp λ_ _ k=>by rw[e]; exact k) hp
theorem SQ (h:Has ms G i x (pB cb)) (hy:Has ms G i y (pB true)) (hz:Has ms G i z (um (cb=false) (pB b2))) (hp:Post G i (pB (cb||b2))):OpOk P ops ms c V A G i ⟨some d,.pick x y z,ty,pos,aI,none⟩:=
 CB h (λe=>hy.imp λ_ _ k=>by rw[e]; exact k) (λe=>(hz.Nu e).imp λ_ _ k=>by rw[e]; exact k) hp
end
end Wx

namespace Wx
open Go Go.RowKit
section
variable {P:Program} {ops:Array Oper} {ms:List Nat} {c:dg} {V:List Vr} {A:List Al} {G:List aX} {i:Nat}{d:Nat} {x y z:Operand} {ty:TypeId} {pos:String} {aI:Array Edge}{p:Pred}
theorem hs (h:Has ms G i x p:=by
 first
 |exact look rfl
 |exact .const _
 |exact .func _):Has ms G i x p:=h
theorem hg (h:Has ms G i x p:=by
 first
 |exact .const _
 |exact .func _
 |exact Has.Nu (look rfl) (by assumption)
 |exact Has.Nu (look rfl) (And.left (by assumption))
 |exact Has.S2 (look rfl) (by assumption)
 |exact look rfl):Has ms G i x p:=h
variable {φ:Prop}
theorem pg (hc:φ) (h:mO i G=some (um φ p)):Post G i p:=WJ hc h
variable {o:Oper}
theorem mv (h:OpOk P ops ms c V A G i o:=by
 first
 |exact bA hs (pt rfl)
 |exact cW hs (pt rfl)):OpOk P ops ms c V A G i o:=h
theorem xF (hc:φ) {o:Oper} (h:φ->OpOk P ops ms c V A G i o:=by
 intro hc
 first
 |exact bA hg (pg hc rfl)
 |exact cW hg (pg hc rfl)):OpOk P ops ms c V A G i o:=h hc
theorem ld (h:OpOk P ops ms c V A G i o:=by
 first
 |exact o_load rfl rfl rfl rfl (pt rfl) (bO (by kernel_rfl))
 |exact sX rfl rfl rfl rfl (by kernel_rfl) rfl xE.ok (yV rfl) trivial (pt rfl) rfl
 |exact fH hs (pt rfl) (by kernel_rfl) sq):OpOk P ops ms c V A G i o:=h
theorem zS (hc:φ) {o:Oper} (h:φ->OpOk P ops ms c V A G i o:=by
 intro hc
 first
 |exact o_load rfl rfl rfl rfl (pg hc rfl) (bO (by kernel_rfl))
 |exact sX rfl rfl rfl rfl (by kernel_rfl) rfl xE.ok (yV rfl) (by first|exact trivial|exact hc) (pg hc rfl) rfl
 |exact fH hg (pg hc rfl) (by kernel_rfl) sq):OpOk P ops ms c V A G i o:=h hc
theorem bn (h:OpOk P ops ms c V A G i o:=by
 first
 |exact KJ hs hs (pt rfl)
 |exact KI hs hs (pt rfl)
 |exact KG hs hs (pt rfl)
 |exact KF hs hs (pt rfl)
 |exact KE hs hs (pt rfl)
 |exact KM hs hs (pt rfl)
 |exact KD hs hs (pt rfl)
 |exact KN hs hs (pt rfl)
 |exact KL hs hs (pt rfl)):OpOk P ops ms c V A G i o:=h
theorem yB (hc:φ) {o:Oper} (h:φ->OpOk P ops ms c V A G i o:=by
 intro hc
 first
 |exact KJ hg hg (pg hc rfl)
 |exact KI hg hg (pg hc rfl)
 |exact KG hg hg (pg hc rfl)
 |exact KF hg hg (pg hc rfl)
 |exact KE hg hg (pg hc rfl)
 |exact KM hg hg (pg hc rfl)
 |exact KD hg hg (pg hc rfl)
 |exact KN hg hg (pg hc rfl)
 |exact KL hg hg (pg hc rfl)):OpOk P ops ms c V A G i o:=h hc
theorem PZ (hc:φ) {o:Oper} (h:φ->OpOk P ops ms c V A G i o:=by
 intro hc
 first
 |exact MK hg (pg hc rfl)):OpOk P ops ms c V A G i o:=h hc
theorem ln (h:OpOk P ops ms c V A G i o:=by
 first
 |exact KH hs (pt rfl) (by kernel_rfl)):OpOk P ops ms c V A G i o:=h
theorem Nl (hc:φ) {o:Oper} (h:φ->OpOk P ops ms c V A G i o:=by
 intro hc
 first
 |exact KH hg (pg hc rfl) (by kernel_rfl)):OpOk P ops ms c V A G i o:=h hc
theorem fa (h:OpOk P ops ms c V A G i o:=by
 first
 |exact Cw rfl rfl rfl rfl rfl (λ_ _=>by kernel_rfl) rfl (by kernel_rfl) (by kernel_rfl)
 |exact ve rfl rfl rfl rfl rfl rfl (λ_ _=>by kernel_rfl) rfl trivial (by kernel_rfl) (by kernel_rfl)
 |exact Cx rfl rfl rfl rfl rfl hs (λ_ _=>by kernel_rfl) rfl (by kernel_rfl) (by kernel_rfl)
 |exact vf rfl rfl rfl rfl rfl rfl hs (λ_ _=>by kernel_rfl) rfl trivial (by kernel_rfl) (by kernel_rfl)):OpOk P ops ms c V A G i o:=h
theorem uQ (hc:φ) {o:Oper} (h:φ->OpOk P ops ms c V A G i o:=by
 intro hc
 first
 |exact Cw rfl rfl rfl rfl rfl (λ_ _=>by kernel_rfl) rfl (by kernel_rfl) (by kernel_rfl)
 |exact ve rfl rfl rfl rfl rfl rfl (λ_ _=>by kernel_rfl) rfl (by first|exact trivial|exact hc) (by kernel_rfl) (by kernel_rfl)
 |exact Cx rfl rfl rfl rfl rfl hg (λ_ _=>by kernel_rfl) rfl (by kernel_rfl) (by kernel_rfl)
 |exact vf rfl rfl rfl rfl rfl rfl hg (λ_ _=>by kernel_rfl) rfl (by first|exact trivial|exact hc) (by kernel_rfl) (by kernel_rfl)):OpOk P ops ms c V A G i o:=h hc
theorem ix (h:OpOk P ops ms c V A G i o:=by
 first
 |exact kq _ hs hs rfl (pt rfl) (by omega) (by kernel_rfl) (by kernel_rfl)
 |exact kq _ hs hs (Int.toNat_of_nonneg (by omega)).symm (pt rfl) (by omega) (by kernel_rfl) (by kernel_rfl)):OpOk P ops ms c V A G i o:=h
theorem Q9 (hc:φ) {o:Oper} (h:φ->OpOk P ops ms c V A G i o:=by
 intro hc
 first
 |exact kq _ hg hg rfl (pg hc rfl) (by omega) (by kernel_rfl) (by kernel_rfl)
 |exact kq _ hg hg (Int.toNat_of_nonneg (by omega)).symm (pg hc rfl) (by omega) (by kernel_rfl) (by kernel_rfl)):OpOk P ops ms c V A G i o:=h hc
theorem ext (h:OpOk P ops ms c V A G i o:=by
 first
 |exact iB hs NV (pt rfl)
 |exact iB hs NW (pt rfl)
 |exact iB hs NY (pt rfl)
 |exact iB hs NZ (pt rfl)
 |exact iB hs N0 (pt rfl)):OpOk P ops ms c V A G i o:=h
theorem pk (h:OpOk P ops ms c V A G i o:=by
 first
 |exact Pq hs hs hs (pt rfl)
 |exact SQ hs hs hs (pt rfl)):OpOk P ops ms c V A G i o:=h
theorem lS (h:OpOk P ops ms c V A G i o:=by
 first
 |exact iQ rfl rfl hs rfl rfl (bO (by kernel_rfl)) sq (by kernel_rfl)
 |exact pJ rfl rfl rfl rfl (by kernel_rfl) rfl hs xE.ok (Ek rfl) rfl (by kernel_rfl) trivial sq rfl (by kernel_rfl)
 |exact pJ rfl rfl rfl rfl (by kernel_rfl) rfl hs xE.ok (El rfl) rfl (by kernel_rfl) trivial sq rfl (by kernel_rfl)):OpOk P ops ms c V A G i o:=h
theorem bo (h:OpOk P ops ms c V A G i o:=by
 first
 |exact Pr rfl rfl rfl hs rfl sq (by kernel_rfl) (by kernel_rfl) (by kernel_rfl)):OpOk P ops ms c V A G i o:=h
theorem gd {j:Nat} {b cb:Bool} {op:Op} {dst:Option Nat} (h:cb=b->OpOk P ops ms c V A G i ⟨dst,op,ty,pos,aI,none⟩) (hq:mO j G=some (pB cb):=by exact rfl) (hA:¬cb=b->zU A i:=by intro hn; first|exact .none rfl|exact UU rfl hn (by kernel_rfl)) (hp:¬cb=b->Post G i (bR undef):=by intro hn; first|exact WI hn rfl|exact .none rfl)
  (hj:(G.all λe=>e.tag != some j||((ms.getD i 0).testBit j&&lN ms i e.till))=true:=by kernel_rfl) (hb:(V.all λx=>(x.born != some i&&x.dead != some i)&&x.st.all λq=>q.1 != i)=true:=by kernel_rfl):OpOk P ops ms c V A G i ⟨dst,op,ty,pos,aI,some (j,b)⟩:=SP hq h hA hp hj hb
variable {T:TypeId} {v:Vr}
theorem qw (l:List Zl) (hv:zT i V=some v:=by exact rfl) (hT:v.T=T:=by exact rfl) (cg:v.kd=.ptr:=by exact rfl) (hc:v.c0=pv (pS (l.map Zl.fd)):=by exact rfl) (Aw:v.agg=true:=by exact rfl)
  (hz:∀w,(zeroValue T).run P w=.ok (.agg (l.flatMap Zl.cs).toArray) w:=by exactλ_=>by kernel_rfl) (hl:(l.flatMap Zl.cs).length=v.n:=by exact rfl) (hst:((v.st.all λq=>(ms.getD q.1 0).testBit i)&&V.all λy=>y.dead != some i)=true:=by kernel_rfl) (hno:(G.all λe=>e.tag != some i)=true:=by kernel_rfl) (eu:(A.all λp=>p.var != v.id||p.tag.any λj=>(ms.getD j 0).testBit i)=true:=by kernel_rfl):
  OpOk P ops ms c V A G i ⟨some d,.alloc T,ty,pos,aI,none⟩:=Jh l hv hT cg hc Aw hz hl hst hno eu
theorem MB (l:Zl) {z:Value} (hl:l.cs=[z]:=by exact rfl) (hv:zT i V=some v:=by exact rfl) (hT:v.T=T:=by exact rfl) (cg:v.kd=.ptr:=by exact rfl) (hc:v.c0=pv l.fd.p:=by exact rfl) (Aw:v.agg=false:=by exact rfl) (hn:v.n=1:=by exact rfl)
  (hz:∀w,(zeroValue T).run P w=.ok z w:=by exactλ_=>by kernel_rfl) (wP:z.cells=[z].toArray:=by exact rfl) (hp:∀w,l.fd.p w z:=by exactλ_=>rfl) (hst:((v.st.all λq=>(ms.getD q.1 0).testBit i)&&V.all λy=>y.dead != some i)=true:=by kernel_rfl) (hno:(G.all λe=>e.tag != some i)=true:=by kernel_rfl) (eu:(A.all λp=>p.var != v.id||p.tag.any λj=>(ms.getD j 0).testBit i)=true:=by kernel_rfl):
  OpOk P ops ms c V A G i ⟨some d,.alloc T,ty,pos,aI,none⟩:=Gk l hl hv hT cg hc Aw hn hz wP hp hst hno eu
theorem fP {S f sz:Nat} {fs:List Fd} {q:Pred} (off n:Nat) (ag:Bool) (h:Has ms G i x (dP sz true (pS fs)):=by exact hs) (hq:Jk ag (zI fs off n)=some q:=by exact rfl) (hp:Post G i (dP n ag q):=by exact pt rfl) (hn:n≠0:=by decide) (hf:∀b o w,(Instr.fieldAt S (.pointer (some ⟨b,o,none⟩)) f).run P w=.ok (.pointer (some ⟨b,o+off,none⟩)) w:=by exactλ_ _ _=>by kernel_rfl)
  (hA:(A.all λq=>q.tag != some i)=true:=by kernel_rfl):OpOk P ops ms c V A G i ⟨some d,.fieldAddr S x f,ty,pos,aI,none⟩:=
 cm rfl rfl rfl (.inr hA) hp λL β a w hI hd=>by
  have hr:=h.spec hI hd
  obtain⟨b,o,cs,e,_⟩:=hr.out
  refine⟨.pointer (some ⟨b,o+off,none⟩),w,?_,Below.refl _ _,λw' he=>?_⟩
  ·show(do pure (Next.value (<-Instr.fieldAt S (a.eval x) f))).run P w=_
   rw[e,Sem.run_bind,hf]
   rfl
  ·obtain⟨b',o',cs',e',hl,hc,hp'⟩:=hr w' he
   rw[e]at e'
   injection e' with e'
   injection e' with e'
   injection e' with e1 e2
   subst e1 e2
   obtain⟨ds,e3,hds⟩:=hp'
   have e4:=bS (show ak true cs'=ak true ds from e3)
   subst e4
   cases hs:zI fs off n with
   |none=>rw[hs]at hq; cases ag<;>cases hq
   |some l=>
    rw[hs]at hq
    have hk:=CM hs hds
    have hlen:=hk.2
    rw[if_neg hn]at hlen
    refine⟨b,o+off,(cs'.drop off).take n,rfl,by rw[List.length_take,List.length_drop]; omega,λj u hj=>?_,Cz hq hk.1⟩
    rw[List.getElem?_take]at hj
    split at hj
    ·rw[List.getElem?_drop]at hj
     rw[Nat.add_assoc]
     exact hc _ _ hj
    ·cases hj
variable {f:FuncId} {ts:Array TypeId} {p1 q1:Pred}
theorem wq (iH:φ->∀w v1,p1 w v1->Calls P f #[v1] w (dK p w)) (h1:Has ms G i x q1:=by exact hs) (c1:∀w v,q1 w v->p1 w v:=by exact qX) (hp:Post G i p:=by exact pt rfl) (hφ:φ:=by first|omega|trivial) (hn:au p:=by exact AW) (hf:aL P f:=by exactλ_ _=>by kernel_rfl):
  OpOk P ops ms c V A G i ⟨some d,.call ⟨.value (.func f),#[x],ts⟩,ty,pos,aI,none⟩:=gm hf hn (h1.imp c1) hp (iH hφ)
variable {p2 q2:Pred}
theorem xZ (iH:φ->∀w v1 v2,p1 w v1->p2 w v2->Calls P f #[v1,v2] w (dK p w)) (h1:Has ms G i x q1:=by exact hs) (c1:∀w v,q1 w v->p1 w v:=by exact qX) (h2:Has ms G i y q2:=by exact hs) (c2:∀w v,q2 w v->p2 w v:=by exact qX) (hp:Post G i p:=by exact pt rfl) (hφ:φ:=by first|omega|trivial) (hn:au p:=by exact AW) (hf:aL P f:=by exactλ_ _=>by kernel_rfl):
  OpOk P ops ms c V A G i ⟨some d,.call ⟨.value (.func f),#[x,y],ts⟩,ty,pos,aI,none⟩:=cD hf hn (h1.imp c1) (h2.imp c2) hp (iH hφ)
theorem Ag (iH:φ->∀M w v1,dR M w->aQ M (λw=>p1 w v1) w->Calls P f #[v1] w (cA M p w)) (h1:Has ms G i x q1:=by exact hs) (c1:∀w v,q1 w v->p1 w v:=by exact qX) (hp:Post G i p:=by exact pt rfl) (hφ:φ:=by first|omega|trivial) (hf:aL P f:=by exactλ_ _=>by kernel_rfl):
  OpOk P ops ms c V A G i ⟨some d,.call ⟨.value (.func f),#[x],ts⟩,ty,pos,aI,none⟩:=DY hf (h1.imp c1) hp (iH hφ)
theorem Eu (iH:φ->∀M w v1 v2,dR M w->aQ M (λw=>p1 w v1) w->aQ M (λw=>p2 w v2) w->Calls P f #[v1,v2] w (cA M p w)) (h1:Has ms G i x q1:=by exact hs) (c1:∀w v,q1 w v->p1 w v:=by exact qX) (h2:Has ms G i y q2:=by exact hs) (c2:∀w v,q2 w v->p2 w v:=by exact qX) (hp:Post G i p:=by exact pt rfl) (hφ:φ:=by first|omega|trivial) (hf:aL P f:=by exactλ_ _=>by kernel_rfl):
  OpOk P ops ms c V A G i ⟨some d,.call ⟨.value (.func f),#[x,y],ts⟩,ty,pos,aI,none⟩:=vm hf (h1.imp c1) (h2.imp c2) hp (iH hφ)
end
section
variable {P:Program} {Q:Exit->Act->World->Prop} {c:dg} {V:List Vr} {G:List aX} {a:Act} {w:World}
end
end Wx
