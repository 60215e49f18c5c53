import Derived.Test.YtfnmkhlleanppaaGreatDoorCWNLeaf
namespace Wx
open Go Go.RowKit
def oY (ms:List Nat) (i s:Nat):List aD->Option Pred
 |[]=>none
 |⟨t,f,s',p⟩::r=>match Nat.beq s' s&&(iK ms i t&&dH ms i f)with
  |true=>some p
  |false=>oY ms i s r
def dQ (i:Nat):List aD->Option Pred
 |[]=>none
 |⟨none,_,_,_⟩::r=>dQ i r
 |⟨some j,_,_,p⟩::r=>match Nat.beq j i with
  |true=>some p
  |false=>dQ i r
def dL (s:Nat):List aD->Option Pred
 |[]=>none
 |⟨none,none,s',p⟩::r=>match Nat.beq s' s with
  |true=>some p
  |false=>dL s r
 |_::r=>dL s r
def wN (ms:List Nat) (i s:Nat):List Al->Option Al
 |[]=>none
 |⟨t,s',v,o,c⟩::r=>match Nat.beq s' s&&iK ms i t with
  |true=>some ⟨t,s',v,o,c⟩
  |false=>wN ms i s r
def tX (i:Nat):List Al->Option Al
 |[]=>none
 |⟨none,_,_,_,_⟩::r=>tX i r
 |⟨some j,s',v,o,c⟩::r=>match Nat.beq j i with
  |true=>some ⟨some j,s',v,o,c⟩
  |false=>tX i r
def lK (id:Nat):List Vr->Option Vr
 |[]=>none
 |⟨d,s',b,e,kd,T,n,ag,c0,st⟩::r=>match Nat.beq d id with
  |true=>some ⟨d,s',b,e,kd,T,n,ag,c0,st⟩
  |false=>lK id r
def Be (ms:List Nat) (i s:Nat):List Vr->Option Vr
 |[]=>none
 |⟨d,s',b,e,kd,T,n,ag,c0,st⟩::r=>match Nat.beq s' s&&(iK ms i b&&dH ms i e)with
  |true=>some ⟨d,s',b,e,kd,T,n,ag,c0,st⟩
  |false=>Be ms i s r
def tF (i:Nat):List Vr->Option Vr
 |[]=>none
 |⟨_,_,none,_,_,_,_,_,_,_⟩::r=>tF i r
 |⟨d,s',some j,e,kd,T,n,ag,c0,st⟩::r=>match Nat.beq j i with
  |true=>some ⟨d,s',some j,e,kd,T,n,ag,c0,st⟩
  |false=>tF i r
def yH (i:Nat):List (Nat×Rel)->Option (Rel×List (Nat×Rel))
 |[]=>none
 |(j,q)::r=>match Nat.beq j i with
  |true=>some (q,r)
  |false=>yH i r
theorem bM {α:Type} {x:α} {r:List α} {y:α} (h:∃k:Nat,r[k]?=some y):∃k:Nat,(x::r)[k]?=some y:=h.elim λk hk=>⟨k+1,hk⟩
variable {ms:List Nat} {i s:Nat} {p:Pred}
theorem qm:∀{G:List aD},oY ms i s G=some p->∃t f,(∃k:Nat,G[k]?=some ⟨t,f,s,p⟩)/\(iK ms i t&&dH ms i f)=true:=by
 intro G
 induction G with
 |nil=>intro h; cases h
 |cons e r ih=>
  intro h
  obtain⟨t,f,s',p'⟩:=e
  unfold oY at h
  split at h
  ·rename_i hb
   rw[Bool.and_eq_true]at hb
   have h1:=Nat.eq_of_beq_eq_true hb.1
   subst h1
   cases h
   exact⟨t,f,⟨0,rfl⟩,hb.2⟩
  ·obtain⟨t,f,hk,h2⟩:=ih h
   exact⟨t,f,bM hk,h2⟩
variable {G:List aD}
theorem look (h:oY ms i s G=some p):Has ms G i (.tmp s) p:=by
 obtain⟨t,f,⟨k,hk⟩,h2⟩:=qm h
 exact .tmp k hk h2
theorem post:∀{G:List aD},dQ i G=some p->∃s f,∃k:Nat,G[k]?=some ⟨some i,f,s,p⟩:=by
 intro G
 induction G with
 |nil=>intro h; cases h
 |cons e r ih=>
  intro h
  obtain⟨t,f,s',p'⟩:=e
  cases t with
  |none=>obtain⟨s,f,hk⟩:=ih h; exact⟨s,f,bM hk⟩
  |some j=>
   simp only[dQ]at h
   split at h
   ·rename_i hb
    have hb:=Nat.eq_of_beq_eq_true hb
    subst hb
    cases h
    exact⟨s',f,0,rfl⟩
   ·obtain⟨s,f,hk⟩:=ih h; exact⟨s,f,bM hk⟩
theorem pt (h:dQ i G=some p):Post G i p:=by
 obtain⟨s,f,k,hk⟩:=post h
 exact .here k hk
variable {φ:Prop}
theorem Ee (hφ:φ) (h:dQ i G=some (gQ φ p)):Post G i p:=by
 obtain⟨s,f,k,hk⟩:=post h
 exact .yX hφ k hk
theorem Cr (hφ:¬φ) (h:dQ i G=some (gQ φ p)):Post G i (aE undef):=by
 obtain⟨s,f,k,hk⟩:=post h
 exact .yE hφ k hk
theorem gy:∀{G:List aD},dL s G=some p->∃k:Nat,G[k]?=some ⟨none,none,s,p⟩:=by
 intro G
 induction G with
 |nil=>intro h; cases h
 |cons e r ih=>
  intro h
  obtain⟨t,f,s',p'⟩:=e
  cases t with
  |some _=>exact bM (ih h)
  |none=>
   cases f with
   |some _=>exact bM (ih h)
   |none=>
    simp only[dL]at h
    split at h
    ·rename_i hb
     have hb:=Nat.eq_of_beq_eq_true hb
     subst hb
     cases h
     exact⟨0,rfl⟩
    ·exact bM (ih h)
variable {al:Al}
theorem iN:∀{A:List Al},wN ms i s A=some al->(∃k:Nat,A[k]?=some al)/\al.slot=s/\iK ms i al.tag=true:=by
 intro A
 induction A with
 |nil=>intro h; cases h
 |cons e r ih=>
  intro h
  obtain⟨t,s',v,o,c⟩:=e
  unfold wN at h
  split at h
  ·rename_i hb
   rw[Bool.and_eq_true]at hb
   cases h
   exact⟨⟨0,rfl⟩,Nat.eq_of_beq_eq_true hb.1,hb.2⟩
  ·obtain⟨h1,h2⟩:=ih h
   exact⟨bM h1,h2⟩
theorem gp:∀{A:List Al},tX i A=some al->(∃k:Nat,A[k]?=some al)/\al.tag=some i:=by
 intro A
 induction A with
 |nil=>intro h; cases h
 |cons e r ih=>
  intro h
  obtain⟨t,s',v,o,c⟩:=e
  cases t with
  |none=>obtain⟨h1,h2⟩:=ih h; exact⟨bM h1,h2⟩
  |some j=>
   simp only[tX]at h
   split at h
   ·rename_i hb
    have hb:=Nat.eq_of_beq_eq_true hb
    subst hb
    cases h
    exact⟨⟨0,rfl⟩,rfl⟩
   ·obtain⟨h1,h2⟩:=ih h; exact⟨bM h1,h2⟩
variable {x:Vr}
theorem cf {id:Nat}:∀{V:List Vr},lK id V=some x->(∃k:Nat,V[k]?=some x)/\id=x.id:=by
 intro V
 induction V with
 |nil=>intro h; cases h
 |cons e r ih=>
  intro h
  obtain⟨d,s',b,e,kd,T,n,ag,c0,st⟩:=e
  unfold lK at h
  split at h
  ·rename_i hb
   cases h
   exact⟨⟨0,rfl⟩,(Nat.eq_of_beq_eq_true hb).symm⟩
  ·obtain⟨h1,h2⟩:=ih h
   exact⟨bM h1,h2⟩
theorem vm:∀{V:List Vr},Be ms i s V=some x->(∃k:Nat,V[k]?=some x)/\x.slot=s/\bq ms i x=true:=by
 intro V
 induction V with
 |nil=>intro h; cases h
 |cons e r ih=>
  intro h
  obtain⟨d,s',b,e,kd,T,n,ag,c0,st⟩:=e
  unfold Be at h
  split at h
  ·rename_i hb
   rw[Bool.and_eq_true]at hb
   cases h
   exact⟨⟨0,rfl⟩,Nat.eq_of_beq_eq_true hb.1,hb.2⟩
  ·obtain⟨h1,h2⟩:=ih h
   exact⟨bM h1,h2⟩
theorem gY:∀{V:List Vr},tF i V=some x->(∃k:Nat,V[k]?=some x)/\x.born=some i:=by
 intro V
 induction V with
 |nil=>intro h; cases h
 |cons e r ih=>
  intro h
  obtain⟨d,s',b,e,kd,T,n,ag,c0,st⟩:=e
  cases b with
  |none=>obtain⟨h1,h2⟩:=ih h; exact⟨bM h1,h2⟩
  |some j=>
   simp only[tF]at h
   split at h
   ·rename_i hb
    have hb:=Nat.eq_of_beq_eq_true hb
    subst hb
    cases h
    exact⟨⟨0,rfl⟩,rfl⟩
   ·obtain⟨h1,h2⟩:=ih h; exact⟨bM h1,h2⟩
theorem iS {q:Rel} {r:List (Nat×Rel)}:∀{st:List (Nat×Rel)},yH i st=some (q,r)->∃m,st[m]?=some (i,q)/\st.drop (m+1)=r:=by
 intro st
 induction st with
 |nil=>intro h; cases h
 |cons e l ih=>
  intro h
  obtain⟨j,q'⟩:=e
  unfold yH at h
  split at h
  ·rename_i hb
   have hb:=Nat.eq_of_beq_eq_true hb
   subst hb
   cases h
   exact⟨0,rfl,rfl⟩
  ·obtain⟨m,h1,h2⟩:=ih h
   exact⟨m+1,h1,h2⟩
section
variable {P:Program} {ops:Array Oper} {ms:List Nat} {c:bD} {V:List Vr} {A:List Al} {G:List aD} {i:Nat}{d:Nat} {x y z:Operand} {ty:TypeId} {pos:String} {aj:Array Edge}{t u:TypeId} {m n:Int} {k:IntKind}
theorem wh (h1:Has ms G i x (aE (.int k m))) (h2:Has ms G i y (aE (.int k n))) (hp:Post G i (pB (decide (m<n)))):OpOk P ops ms c V A G i ⟨some d,.binOp .lss t x y u,ty,pos,aj,none⟩:=bZ h1 h2 (λ_=>by cases k<;>rfl) hp
theorem wg (h1:Has ms G i x (aE (.int k m))) (h2:Has ms G i y (aE (.int k n))) (hp:Post G i (pB (decide (m<=n)))):OpOk P ops ms c V A G i ⟨some d,.binOp .leq t x y u,ty,pos,aj,none⟩:=bZ h1 h2 (λ_=>by cases k<;>rfl) hp
theorem vZ (h1:Has ms G i x (aE (.int k m))) (h2:Has ms G i y (aE (.int k n))) (hp:Post G i (pB (decide (m>n)))):OpOk P ops ms c V A G i ⟨some d,.binOp .gtr t x y u,ty,pos,aj,none⟩:=bZ h1 h2 (λ_=>by cases k<;>rfl) hp
theorem vY (h1:Has ms G i x (aE (.int k m))) (h2:Has ms G i y (aE (.int k n))) (hp:Post G i (pB (decide (m>=n)))):OpOk P ops ms c V A G i ⟨some d,.binOp .geq t x y u,ty,pos,aj,none⟩:=bZ h1 h2 (λ_=>by cases k<;>rfl) hp
theorem vX (h1:Has ms G i x (aE (.int k m))) (h2:Has ms G i y (aE (.int k n))) (hp:Post G i (pB (decide (m=n)))):OpOk P ops ms c V A G i ⟨some d,.binOp .eql t x y u,ty,pos,aj,none⟩:=bZ h1 h2 (v:=.bool (m==n)) (λ_=>by cases k<;>rfl) (by rw[show(m==n)=decide (m=n) by by_cases h:m=n<;>simp[h]]; exact hp)
theorem wm (h1:Has ms G i x (aE (.int k m))) (h2:Has ms G i y (aE (.int k n))) (hp:Post G i (pB (decide (m≠n)))):OpOk P ops ms c V A G i ⟨some d,.binOp .neq t x y u,ty,pos,aj,none⟩:=bZ h1 h2 (v:=.bool (m != n)) (λ_=>by cases k<;>rfl) (by rw[show(m != n)=decide (m≠n) by by_cases h:m=n<;>simp[h]]; exact hp)
theorem vV (h1:Has ms G i x (pI m)) (h2:Has ms G i y (pI n)) (hp:Post G i (pI (m+n))) (hr:-9223372036854775808<=m+n/\m+n<=9223372036854775807:=by omega):OpOk P ops ms c V A G i ⟨some d,.binOp .add t x y u,ty,pos,aj,none⟩:=
 bZ h1 h2 (v:=.int .i64 (IntKind.i64.wrap (m+n))) (λ_=>rfl) (by rw[IntWalk.i64_in _ hr]; exact hp)
theorem wo (h1:Has ms G i x (pI m)) (h2:Has ms G i y (pI n)) (hp:Post G i (pI (m-n))) (hr:-9223372036854775808<=m-n/\m-n<=9223372036854775807:=by omega):OpOk P ops ms c V A G i ⟨some d,.binOp .sub t x y u,ty,pos,aj,none⟩:=
 bZ h1 h2 (v:=.int .i64 (IntKind.i64.wrap (m-n))) (λ_=>rfl) (by rw[IntWalk.i64_in _ hr]; exact hp)
theorem wj (h1:Has ms G i x (pI m)) (h2:Has ms G i y (pI n)) (hp:Post G i (pI (m*n))) (hr:-9223372036854775808<=m*n/\m*n<=9223372036854775807:=by omega):OpOk P ops ms c V A G i ⟨some d,.binOp .mul t x y u,ty,pos,aj,none⟩:=
 bZ h1 h2 (v:=.int .i64 (IntKind.i64.wrap (m*n))) (λ_=>rfl) (by rw[IntWalk.i64_in _ hr]; exact hp)
variable {T:TypeId} {s:Nat} {agg:Bool} {v:Vr} {al:Al} {p q:Pred}
theorem sM {n:Nat} (ha:wN ms i s A=some al) (hv:lK al.var V=some v) (ho:bq ms i v=true) (bH:v.kd=.ptr) (hst:(v.st.all λq=>(ms.getD i 0).testBit q.1||(ms.getD q.1 0).testBit i)=true)
  (hc:cont (λj=>(ms.getD i 0).testBit j) v.c0 v.st=pv p) (ht:Ty P T agg n) (hq:∀w cs,cs.length=v.n->p w (ae v.agg cs)->q w (ae agg ((cs.drop al.off).take n))) (hcd:al.cond) (hp:Post G i q) (hlen:decide (al.off+n<=v.n)=true):OpOk P ops ms c V A G i ⟨some d,.load T (.tmp s),ty,pos,aj,none⟩:=by
 obtain⟨⟨k2,hk2⟩,h1,h2⟩:=iN ha
 obtain⟨⟨k,hk⟩,h3⟩:=cf hv
 exact qv k hk k2 hk2 h1 h3 rfl h2 hcd ho bH hst ht hlen hc hq hp
variable {S f off:Nat}
theorem uU (ha:tX i A=some al) (hv:lK al.var V=some v) (ho:bq ms i v=true) (bH:v.kd=.ptr) (hs:v.slot=s)
  (hf:∀b w,(Instr.fieldAt S (.pointer (some ⟨b,0,none⟩)) f).run P w=.ok (.pointer (some ⟨b,off,none⟩)) w) (hal:al.off=off) (hu:(A.filter λq=>q.tag==some i).length=1) (hno:(G.all λe=>e.tag != some i)=true):
  OpOk P ops ms c V A G i ⟨some d,.fieldAddr S (.tmp s) f,ty,pos,aj,none⟩:=by
 obtain⟨⟨k2,hk2⟩,h1⟩:=gp ha
 obtain⟨⟨k,hk⟩,h3⟩:=cf hv
 exact mW k hk ho bH k2 hk2 h1 h3 hal (.inl ⟨hs.symm,rfl⟩) hu hno hf
variable {hU:Al}
theorem qo (ha:tX i A=some al) (ha0:wN ms i s A=some hU) (hv:lK al.var V=some v) (hv0:hU.var=al.var) (ho:bq ms i v=true) (bH:v.kd=.ptr)
  (hf:∀b w,(Instr.fieldAt S (.pointer (some ⟨b,hU.off,none⟩)) f).run P w=.ok (.pointer (some ⟨b,off,none⟩)) w) (hal:al.off=off) (hcd:hU.cond) (hu:(A.filter λq=>q.tag==some i).length=1) (hno:(G.all λe=>e.tag != some i)=true):
  OpOk P ops ms c V A G i ⟨some d,.fieldAddr S (.tmp s) f,ty,pos,aj,none⟩:=by
 obtain⟨⟨k2,hk2⟩,h1⟩:=gp ha
 obtain⟨⟨k3,hk3⟩,h4,h5⟩:=iN ha0
 obtain⟨⟨k,hk⟩,h3⟩:=cf hv
 exact mW k hk ho bH k2 hk2 h1 h3 hal (.inr ⟨k3,hU,hk3,h4,hv0.trans h3,rfl,h5,hcd⟩) hu hno hf
theorem uV (ha:tX i A=some al) (hv:lK al.var V=some v) (ho:bq ms i v=true) (bH:v.kd=.ptr) (hs:v.slot=s) (zM:Has ms G i y (pI n))
  (hf:∀b w,(Instr.indexAt S (.pointer (some ⟨b,0,none⟩)) (.int .i64 n)).run P w=.ok (.pointer (some ⟨b,off,none⟩)) w) (hal:al.off=off) (hu:(A.filter λq=>q.tag==some i).length=1) (hno:(G.all λe=>e.tag != some i)=true):
  OpOk P ops ms c V A G i ⟨some d,.indexAddr S (.tmp s) y,ty,pos,aj,none⟩:=by
 obtain⟨⟨k2,hk2⟩,h1⟩:=gp ha
 obtain⟨⟨k,hk⟩,h3⟩:=cf hv
 exact mX k hk ho bH k2 hk2 h1 h3 hal (.inl ⟨hs.symm,rfl⟩) hu hno zM hf
theorem qp (ha:tX i A=some al) (ha0:wN ms i s A=some hU) (hv:lK al.var V=some v) (hv0:hU.var=al.var) (ho:bq ms i v=true) (bH:v.kd=.ptr) (zM:Has ms G i y (pI n))
  (hf:∀b w,(Instr.indexAt S (.pointer (some ⟨b,hU.off,none⟩)) (.int .i64 n)).run P w=.ok (.pointer (some ⟨b,off,none⟩)) w) (hal:al.off=off) (hcd:hU.cond) (hu:(A.filter λq=>q.tag==some i).length=1) (hno:(G.all λe=>e.tag != some i)=true):
  OpOk P ops ms c V A G i ⟨some d,.indexAddr S (.tmp s) y,ty,pos,aj,none⟩:=by
 obtain⟨⟨k2,hk2⟩,h1⟩:=gp ha
 obtain⟨⟨k3,hk3⟩,h4,h5⟩:=iN ha0
 obtain⟨⟨k,hk⟩,h3⟩:=cf hv
 exact mX k hk ho bH k2 hk2 h1 h3 hal (.inr ⟨k3,hU,hk3,h4,hv0.trans h3,rfl,h5,hcd⟩) hu hno zM hf
variable {r:List (Nat×Rel)}
theorem gN (hv:Be ms i s V=some v) (bH:v.kd=.ptr) (h:Has ms G i y p) (hm:yH i v.st=some (pv p,r)) (hr:(r.all λr=>(ms.getD r.1 0).testBit i)=true) (ht:Ty P T v.agg v.n) (hf:Fits v.n v.agg p)
  (ej:(V.all λy=>y.id==v.id||y.st.all λq=>q.1 != i)=true):OpOk P ops ms c V A G i ⟨none,.store T (.tmp s) y,ty,pos,aj,none⟩:=by
 obtain⟨⟨k,hk⟩,h1,h2⟩:=vm hv
 obtain⟨m,h3,h4⟩:=iS hm
 exact sV k hk h1 h2 bH m h3 (by rw[h4]; exact hr) ej ht h hf
theorem kj {n:Nat} {q0:Pred} (ha:wN ms i s A=some al) (hv:lK al.var V=some v) (ho:bq ms i v=true) (bH:v.kd=.ptr) (hst:(v.st.all λq=>q.1==i||((ms.getD i 0).testBit q.1||(ms.getD q.1 0).testBit i))=true)
  (hc:cont (λj=>(ms.getD i 0).testBit j) v.c0 v.st=pv q0) (h:Has ms G i y p) (ht:Ty P T agg n) (hq:∀w cs ds,cs.length=v.n->ds.length=n->q0 w (ae v.agg cs)->p w (ae agg ds)->q w (ae v.agg (cs.take al.off++ds++cs.drop (al.off+n))))
  (hm:yH i v.st=some (pv q,r)) (hr:(r.all λr=>(ms.getD r.1 0).testBit i)=true) (hcd:al.cond) (hf:Fits n agg p) (hlen:decide (al.off+n<=v.n)=true)
  (ej:(V.all λy=>y.id==v.id||y.st.all λq=>q.1 != i)=true):OpOk P ops ms c V A G i ⟨none,.store T (.tmp s) y,ty,pos,aj,none⟩:=by
 obtain⟨⟨k2,hk2⟩,h1,h2⟩:=iN ha
 obtain⟨⟨k,hk⟩,h3⟩:=cf hv
 obtain⟨m,h5,h6⟩:=iS hm
 exact ow k hk k2 hk2 h1 h3 rfl h2 hcd ho bH hst m h5 (by rw[h6]; exact hr) ej ht hlen hc h hf hq
theorem uT (l:List Zl) (hv:tF i V=some v) (hT:v.T=T) (bH:v.kd=.ptr) (hc:v.c0=pv (pS (l.map Zl.fd))) (hag:v.agg=true)
  (hz:∀w,(zeroValue T).run P w=.ok (.agg (l.flatMap Zl.cs).toArray) w) (hl:(l.flatMap Zl.cs).length=v.n) (hst:((v.st.all λq=>(ms.getD q.1 0).testBit i)&&V.all λy=>y.dead != some i)=true) (hno:(G.all λe=>e.tag != some i)=true) (hal:(A.all λp=>p.var != v.id||p.tag.any λj=>(ms.getD j 0).testBit i)=true):
  OpOk P ops ms c V A G i ⟨some d,.alloc T,ty,pos,aj,none⟩:=by
 obtain⟨⟨k,hk⟩,hb⟩:=gY hv
 exact gP k hk hb hst hno hal hT bH hz rfl hl (tQ l) hc λw=>by rw[hag]; exact tP l w
theorem sK (l:Zl) {z:Value} (hl:l.cs=[z]) (hv:tF i V=some v) (hT:v.T=T) (bH:v.kd=.ptr) (hc:v.c0=pv l.fd.p) (hag:v.agg=false) (hn:v.n=1)
  (hz:∀w,(zeroValue T).run P w=.ok z w) (jN:z.cells=[z].toArray) (hp:∀w,l.fd.p w z) (hst:((v.st.all λq=>(ms.getD q.1 0).testBit i)&&V.all λy=>y.dead != some i)=true) (hno:(G.all λe=>e.tag != some i)=true) (hal:(A.all λp=>p.var != v.id||p.tag.any λj=>(ms.getD j 0).testBit i)=true):
  OpOk P ops ms c V A G i ⟨some d,.alloc T,ty,pos,aj,none⟩:=by
 obtain⟨⟨k,hk⟩,hb⟩:=gY hv
 exact gP k hk hb hst hno hal hT bH hz jN hn.symm (λu hu=>tQ [l] u (by simpa [hl] using hu)) hc λw=>by rw[hag]; exact hp w
theorem Ao (hv:tF i V=some v) (hT:v.T=T) (bH:v.kd=.ptr) (h:Has ms G i x p) (hc:v.c0=pv p) (hf:Fits v.n v.agg p) (hst:((v.st.all λq=>(ms.getD q.1 0).testBit i)&&V.all λy=>y.dead != some i)=true) (hno:(G.all λe=>e.tag != some i)=true) (hal:(A.all λp=>p.var != v.id||p.tag.any λj=>(ms.getD j 0).testBit i)=true):
  OpOk P ops ms c V A G i ⟨some d,.box T x,ty,pos,aj,none⟩:=by
 obtain⟨⟨k,hk⟩,hb⟩:=gY hv
 exact yf k hk hb hst hno hal hT bH h hf hc
variable {j:Nat} {b cb:Bool}
theorem Cm {op:Op} {dst:Option Nat} (hg:dQ j G=some (pB cb)) (h:cb=b->OpOk P ops ms c V A G i ⟨dst,op,ty,pos,aj,none⟩) (hA:¬cb=b->iV A i) (hp:¬cb=b->Post G i (aE undef))
  (hj:(G.all λe=>e.tag != some j||((ms.getD i 0).testBit j&&dH ms i e.till))=true) (hb:(V.all λx=>(x.born != some i&&x.dead != some i)&&x.st.all λq=>q.1 != i)=true):OpOk P ops ms c V A G i ⟨dst,op,ty,pos,aj,some (j,b)⟩:=by
 obtain⟨s,f,k,hk⟩:=post hg
 have:=List.all_eq_true.1 hj _ (List.mem_of_getElem? hk)
 exact Ar k hk (by simpa using this) h hb hA hp
theorem Ap {φ:Prop} [Decidable φ] {op:Op} {dst:Option Nat} (hg:dQ j G=some (gQ φ (pB cb))) (h:φ/\cb=b->OpOk P ops ms c V A G i ⟨dst,op,ty,pos,aj,none⟩) (hA:¬(φ/\cb=b)->iV A i) (hp:¬(φ/\cb=b)->Post G i (aE undef))
  (hj:(G.all λe=>e.tag != some j||((ms.getD i 0).testBit j&&dH ms i e.till))=true) (hb:(V.all λx=>(x.born != some i&&x.dead != some i)&&x.st.all λq=>q.1 != i)=true):OpOk P ops ms c V A G i ⟨dst,op,ty,pos,aj,some (j,b)⟩:=by
 obtain⟨s,f,k,hk⟩:=post hg
 have:=List.all_eq_true.1 hj _ (List.mem_of_getElem? hk)
 exact yg k hk (by simpa using this) h hb hA hp
end
end Wx
