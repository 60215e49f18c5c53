import Derived.Test.YtfnmkhlleanppaaGreatDoorCWBLeaf
namespace Wx
open Go Go.RowKit
def ru (ms:List Nat) (i s:Nat):List aI->Option Pred
 |[]=>none
 |⟨t,f,s',p⟩::r=>match Nat.beq s' s&&(lI ms i t&&eT ms i f)with
  |true=>some p
  |false=>ru ms i s r
def fT (i:Nat):List aI->Option Pred
 |[]=>none
 |⟨none,_,_,_⟩::r=>fT i r
 |⟨some j,_,_,p⟩::r=>match Nat.beq j i with
  |true=>some p
  |false=>fT i r
def eO (s:Nat):List aI->Option Pred
 |[]=>none
 |⟨none,none,s',p⟩::r=>match Nat.beq s' s with
  |true=>some p
  |false=>eO s r
 |_::r=>eO s r
def BI (ms:List Nat) (i s:Nat):List Al->Option Al
 |[]=>none
 |⟨t,s',v,o,c⟩::r=>match Nat.beq s' s&&lI ms i t with
  |true=>some ⟨t,s',v,o,c⟩
  |false=>BI ms i s r
def BJ (i:Nat):List Al->Option Al
 |[]=>none
 |⟨none,_,_,_,_⟩::r=>BJ i r
 |⟨some j,s',v,o,c⟩::r=>match Nat.beq j i with
  |true=>some ⟨some j,s',v,o,c⟩
  |false=>BJ i r
def pC (id:Nat):List Vr->Option Vr
 |[]=>none
 |⟨d,s',b,e,kd,T,n,ag,c0,st⟩::r=>match Nat.beq d id with
  |true=>some ⟨d,s',b,e,kd,T,n,ag,c0,st⟩
  |false=>pC id r
def wg (ms:List Nat) (i s:Nat):List Vr->Option Vr
 |[]=>none
 |⟨d,s',b,e,kd,T,n,ag,c0,st⟩::r=>match Nat.beq s' s&&(lI ms i b&&eT ms i e)with
  |true=>some ⟨d,s',b,e,kd,T,n,ag,c0,st⟩
  |false=>wg ms i s r
def pL (i:Nat):List Vr->Option Vr
 |[]=>none
 |⟨_,_,none,_,_,_,_,_,_,_⟩::r=>pL i r
 |⟨d,s',some j,e,kd,T,n,ag,c0,st⟩::r=>match Nat.beq j i with
  |true=>some ⟨d,s',some j,e,kd,T,n,ag,c0,st⟩
  |false=>pL i r
def Bb (i:Nat):List (Nat×Rel)->Option (Rel×List (Nat×Rel))
 |[]=>none
 |(j,q)::r=>match Nat.beq j i with
  |true=>some (q,r)
  |false=>Bb i r
theorem cf {α:Type} {x:α} {r:List α} {y:α} (h:∃k:Nat,r[k]?=some y):∃k:Nat,(x::r)[k]?=some y:=h.elim λk hk=>⟨k+1,hk⟩
variable {ms:List Nat} {i s:Nat} {p:Pred}
theorem sO:∀{G:List aI},ru ms i s G=some p->∃t f,(∃k:Nat,G[k]?=some ⟨t,f,s,p⟩)/\(lI ms i t&&eT ms i f)=true:=by
 intro G
 induction G with
 |nil=>intro h; cases h
 |cons e r ih=>
  intro h
  obtain⟨t,f,s',p'⟩:=e
  unfold ru at h
  split at h
  ·rename_i hb
   rw[Bool.and_eq_true]at hb
   have h1:=Nat.eq_of_beq_eq_true hb.1
   subst h1
   cases h
   exact⟨t,f,⟨0,rfl⟩,hb.2⟩
  ·obtain⟨t,f,hk,h2⟩:=ih h
   exact⟨t,f,cf hk,h2⟩
variable {G:List aI}
theorem look (h:ru ms i s G=some p):Has ms G i (.tmp s) p:=by
 obtain⟨t,f,⟨k,hk⟩,h2⟩:=sO h
 exact .tmp k hk h2
theorem post:∀{G:List aI},fT i G=some p->∃s f,∃k:Nat,G[k]?=some ⟨some i,f,s,p⟩:=by
 intro G
 induction G with
 |nil=>intro h; cases h
 |cons e r ih=>
  intro h
  obtain⟨t,f,s',p'⟩:=e
  cases t with
  |none=>obtain⟨s,f,hk⟩:=ih h; exact⟨s,f,cf hk⟩
  |some j=>
   simp only[fT]at h
   split at h
   ·rename_i hb
    have hb:=Nat.eq_of_beq_eq_true hb
    subst hb
    cases h
    exact⟨s',f,0,rfl⟩
   ·obtain⟨s,f,hk⟩:=ih h; exact⟨s,f,cf hk⟩
theorem pt (h:fT i G=some p):Post G i p:=by
 obtain⟨s,f,k,hk⟩:=post h
 exact .here k hk
variable {φ:Prop}
theorem GA (hφ:φ) (h:fT i G=some (jn φ p)):Post G i p:=by
 obtain⟨s,f,k,hk⟩:=post h
 exact .Bz hφ k hk
theorem Fi (hφ:¬φ) (h:fT i G=some (jn φ p)):Post G i (aJ undef):=by
 obtain⟨s,f,k,hk⟩:=post h
 exact .A8 hφ k hk
theorem iz:∀{G:List aI},eO s G=some p->∃k:Nat,G[k]?=some ⟨none,none,s,p⟩:=by
 intro G
 induction G with
 |nil=>intro h; cases h
 |cons e r ih=>
  intro h
  obtain⟨t,f,s',p'⟩:=e
  cases t with
  |some _=>exact cf (ih h)
  |none=>
   cases f with
   |some _=>exact cf (ih h)
   |none=>
    simp only[eO]at h
    split at h
    ·rename_i hb
     have hb:=Nat.eq_of_beq_eq_true hb
     subst hb
     cases h
     exact⟨0,rfl⟩
    ·exact cf (ih h)
variable {al:Al}
theorem qM:∀{A:List Al},BI ms i s A=some al->(∃k:Nat,A[k]?=some al)/\al.slot=s/\lI ms i al.tag=true:=by
 intro A
 induction A with
 |nil=>intro h; cases h
 |cons e r ih=>
  intro h
  obtain⟨t,s',v,o,c⟩:=e
  unfold BI at h
  split at h
  ·rename_i hb
   rw[Bool.and_eq_true]at hb
   cases h
   exact⟨⟨0,rfl⟩,Nat.eq_of_beq_eq_true hb.1,hb.2⟩
  ·obtain⟨h1,h2⟩:=ih h
   exact⟨cf h1,h2⟩
theorem wj:∀{A:List Al},BJ i A=some al->(∃k:Nat,A[k]?=some al)/\al.tag=some i:=by
 intro A
 induction A with
 |nil=>intro h; cases h
 |cons e r ih=>
  intro h
  obtain⟨t,s',v,o,c⟩:=e
  cases t with
  |none=>obtain⟨h1,h2⟩:=ih h; exact⟨cf h1,h2⟩
  |some j=>
   simp only[BJ]at h
   split at h
   ·rename_i hb
    have hb:=Nat.eq_of_beq_eq_true hb
    subst hb
    cases h
    exact⟨⟨0,rfl⟩,rfl⟩
   ·obtain⟨h1,h2⟩:=ih h; exact⟨cf h1,h2⟩
variable {x:Vr}
theorem dW {id:Nat}:∀{V:List Vr},pC id V=some x->(∃k:Nat,V[k]?=some x)/\id=x.id:=by
 intro V
 induction V with
 |nil=>intro h; cases h
 |cons e r ih=>
  intro h
  obtain⟨d,s',b,e,kd,T,n,ag,c0,st⟩:=e
  unfold pC at h
  split at h
  ·rename_i hb
   cases h
   exact⟨⟨0,rfl⟩,(Nat.eq_of_beq_eq_true hb).symm⟩
  ·obtain⟨h1,h2⟩:=ih h
   exact⟨cf h1,h2⟩
theorem fS:∀{V:List Vr},wg ms i s V=some x->(∃k:Nat,V[k]?=some x)/\x.slot=s/\bD ms i x=true:=by
 intro V
 induction V with
 |nil=>intro h; cases h
 |cons e r ih=>
  intro h
  obtain⟨d,s',b,e,kd,T,n,ag,c0,st⟩:=e
  unfold wg at h
  split at h
  ·rename_i hb
   rw[Bool.and_eq_true]at hb
   cases h
   exact⟨⟨0,rfl⟩,Nat.eq_of_beq_eq_true hb.1,hb.2⟩
  ·obtain⟨h1,h2⟩:=ih h
   exact⟨cf h1,h2⟩
theorem dF:∀{V:List Vr},pL i V=some x->(∃k:Nat,V[k]?=some x)/\x.born=some i:=by
 intro V
 induction V with
 |nil=>intro h; cases h
 |cons e r ih=>
  intro h
  obtain⟨d,s',b,e,kd,T,n,ag,c0,st⟩:=e
  cases b with
  |none=>obtain⟨h1,h2⟩:=ih h; exact⟨cf h1,h2⟩
  |some j=>
   simp only[pL]at h
   split at h
   ·rename_i hb
    have hb:=Nat.eq_of_beq_eq_true hb
    subst hb
    cases h
    exact⟨⟨0,rfl⟩,rfl⟩
   ·obtain⟨h1,h2⟩:=ih h; exact⟨cf h1,h2⟩
theorem jS {q:Rel} {r:List (Nat×Rel)}:∀{st:List (Nat×Rel)},Bb i st=some (q,r)->∃m,st[m]?=some (i,q)/\st.drop (m+1)=r:=by
 intro st
 induction st with
 |nil=>intro h; cases h
 |cons e l ih=>
  intro h
  obtain⟨j,q'⟩:=e
  unfold Bb at h
  split at h
  ·rename_i hb
   have hb:=Nat.eq_of_beq_eq_true hb
   subst hb
   cases h
   exact⟨0,rfl,rfl⟩
  ·obtain⟨m,h1,h2⟩:=ih h
   exact⟨m+1,h1,h2⟩
section
variable {P:Program} {ops:Array Oper} {ms:List Nat} {c:bJ} {V:List Vr} {A:List Al} {G:List aI} {i:Nat}{d:Nat} {x y z:Operand} {ty:TypeId} {pos:String} {au:Array Edge}{t u:TypeId} {m n:Int} {k:IntKind}
theorem yU (h1:Has ms G i x (aJ (.int k m))) (h2:Has ms G i y (aJ (.int k n))) (hp:Post G i (pB (decide (m<n)))):OpOk P ops ms c V A G i ⟨some d,.binOp .lss t x y u,ty,pos,au,none⟩:=cm h1 h2 (λ_=>by cases k<;>rfl) hp
theorem yT (h1:Has ms G i x (aJ (.int k m))) (h2:Has ms G i y (aJ (.int k n))) (hp:Post G i (pB (decide (m<=n)))):OpOk P ops ms c V A G i ⟨some d,.binOp .leq t x y u,ty,pos,au,none⟩:=cm h1 h2 (λ_=>by cases k<;>rfl) hp
theorem yR (h1:Has ms G i x (aJ (.int k m))) (h2:Has ms G i y (aJ (.int k n))) (hp:Post G i (pB (decide (m>n)))):OpOk P ops ms c V A G i ⟨some d,.binOp .gtr t x y u,ty,pos,au,none⟩:=cm h1 h2 (λ_=>by cases k<;>rfl) hp
theorem yQ (h1:Has ms G i x (aJ (.int k m))) (h2:Has ms G i y (aJ (.int k n))) (hp:Post G i (pB (decide (m>=n)))):OpOk P ops ms c V A G i ⟨some d,.binOp .geq t x y u,ty,pos,au,none⟩:=cm h1 h2 (λ_=>by cases k<;>rfl) hp
theorem yP (h1:Has ms G i x (aJ (.int k m))) (h2:Has ms G i y (aJ (.int k n))) (hp:Post G i (pB (decide (m=n)))):OpOk P ops ms c V A G i ⟨some d,.binOp .eql t x y u,ty,pos,au,none⟩:=cm h1 h2 (v:=.bool (m==n)) (λ_=>by cases k<;>rfl) (by rw[show(m==n)=decide (m=n) by by_cases h:m=n<;>simp[h]]; exact hp)
theorem yY (h1:Has ms G i x (aJ (.int k m))) (h2:Has ms G i y (aJ (.int k n))) (hp:Post G i (pB (decide (m≠n)))):OpOk P ops ms c V A G i ⟨some d,.binOp .neq t x y u,ty,pos,au,none⟩:=cm h1 h2 (v:=.bool (m != n)) (λ_=>by cases k<;>rfl) (by rw[show(m != n)=decide (m≠n) by by_cases h:m=n<;>simp[h]]; exact hp)
theorem yN (h1:Has ms G i x (pI m)) (h2:Has ms G i y (pI n)) (hp:Post G i (pI (m+n))) (hr:-9223372036854775808<=m+n/\m+n<=9223372036854775807:=by omega):OpOk P ops ms c V A G i ⟨some d,.binOp .add t x y u,ty,pos,au,none⟩:=
 cm h1 h2 (v:=.int .i64 (IntKind.i64.wrap (m+n))) (λ_=>rfl) (by rw[IntWalk.i64_in _ hr]; exact hp)
theorem yZ (h1:Has ms G i x (pI m)) (h2:Has ms G i y (pI n)) (hp:Post G i (pI (m-n))) (hr:-9223372036854775808<=m-n/\m-n<=9223372036854775807:=by omega):OpOk P ops ms c V A G i ⟨some d,.binOp .sub t x y u,ty,pos,au,none⟩:=
 cm h1 h2 (v:=.int .i64 (IntKind.i64.wrap (m-n))) (λ_=>rfl) (by rw[IntWalk.i64_in _ hr]; exact hp)
theorem yV (h1:Has ms G i x (pI m)) (h2:Has ms G i y (pI n)) (hp:Post G i (pI (m*n))) (hr:-9223372036854775808<=m*n/\m*n<=9223372036854775807:=by omega):OpOk P ops ms c V A G i ⟨some d,.binOp .mul t x y u,ty,pos,au,none⟩:=
 cm h1 h2 (v:=.int .i64 (IntKind.i64.wrap (m*n))) (λ_=>rfl) (by rw[IntWalk.i64_in _ hr]; exact hp)
variable {T:TypeId} {s:Nat} {v:Vr} {p:Pred}
theorem o_load (hv:wg ms i s V=some v) (bT:v.kd=.ptr) (hst:(v.st.all λq=>(ms.getD i 0).testBit q.1||(ms.getD q.1 0).testBit i)=true)
  (hc:cont (λj=>(ms.getD i 0).testBit j) v.c0 v.st=pv p) (hp:Post G i p) (ht:Ty P T v.agg v.n):OpOk P ops ms c V A G i ⟨some d,.load T (.tmp s),ty,pos,au,none⟩:=by
 obtain⟨⟨k,hk⟩,h1,h2⟩:=fS hv
 exact xJ k hk h1 h2 bT hst ht hc hp
variable {agg:Bool} {al:Al} {q:Pred}
theorem ve {n:Nat} (ha:BI ms i s A=some al) (hv:pC al.var V=some v) (ho:bD ms i v=true) (bT:v.kd=.ptr) (hst:(v.st.all λq=>(ms.getD i 0).testBit q.1||(ms.getD q.1 0).testBit i)=true)
  (hc:cont (λj=>(ms.getD i 0).testBit j) v.c0 v.st=pv p) (ht:Ty P T agg n) (hq:∀w cs,cs.length=v.n->p w (ah v.agg cs)->q w (ah agg ((cs.drop al.off).take n))) (hcd:al.cond) (hp:Post G i q) (hlen:decide (al.off+n<=v.n)=true):OpOk P ops ms c V A G i ⟨some d,.load T (.tmp s),ty,pos,au,none⟩:=by
 obtain⟨⟨k2,hk2⟩,h1,h2⟩:=qM ha
 obtain⟨⟨k,hk⟩,h3⟩:=dW hv
 exact sR k hk k2 hk2 h1 h3 rfl h2 hcd ho bT hst ht hlen hc hq hp
variable {r:List (Nat×Rel)}
theorem iO (hv:wg ms i s V=some v) (bT:v.kd=.ptr) (h:Has ms G i y p) (hm:Bb i v.st=some (pv p,r)) (hr:(r.all λr=>(ms.getD r.1 0).testBit i)=true) (ht:Ty P T v.agg v.n) (hf:Fits v.n v.agg p)
  (dL:(V.all λy=>y.id==v.id||y.st.all λq=>q.1 != i)=true):OpOk P ops ms c V A G i ⟨none,.store T (.tmp s) y,ty,pos,au,none⟩:=by
 obtain⟨⟨k,hk⟩,h1,h2⟩:=fS hv
 obtain⟨m,h3,h4⟩:=jS hm
 exact vr k hk h1 h2 bT m h3 (by rw[h4]; exact hr) dL ht h hf
theorem mb {n:Nat} {q0:Pred} (ha:BI ms i s A=some al) (hv:pC al.var V=some v) (ho:bD ms i v=true) (bT:v.kd=.ptr) (hst:(v.st.all λq=>q.1==i||((ms.getD i 0).testBit q.1||(ms.getD q.1 0).testBit i))=true)
  (hc:cont (λj=>(ms.getD i 0).testBit j) v.c0 v.st=pv q0) (h:Has ms G i y p) (ht:Ty P T agg n) (hq:∀w cs ds,cs.length=v.n->ds.length=n->q0 w (ah v.agg cs)->p w (ah agg ds)->q w (ah v.agg (cs.take al.off++ds++cs.drop (al.off+n))))
  (hm:Bb i v.st=some (pv q,r)) (hr:(r.all λr=>(ms.getD r.1 0).testBit i)=true) (hcd:al.cond) (hf:Fits n agg p) (hlen:decide (al.off+n<=v.n)=true)
  (dL:(V.all λy=>y.id==v.id||y.st.all λq=>q.1 != i)=true):OpOk P ops ms c V A G i ⟨none,.store T (.tmp s) y,ty,pos,au,none⟩:=by
 obtain⟨⟨k2,hk2⟩,h1,h2⟩:=qM ha
 obtain⟨⟨k,hk⟩,h3⟩:=dW hv
 obtain⟨m,h5,h6⟩:=jS hm
 exact qs k hk k2 hk2 h1 h3 rfl h2 hcd ho bT hst m h5 (by rw[h6]; exact hr) dL ht hlen hc h hf hq
theorem uZ (l:Zl) {z:Value} (hl:l.cs=[z]) (hv:pL i V=some v) (hT:v.T=T) (bT:v.kd=.ptr) (hc:v.c0=pv l.fd.p) (hag:v.agg=false) (hn:v.n=1)
  (hz:∀w,(zeroValue T).run P w=.ok z w) (lG:z.cells=[z].toArray) (hp:∀w,l.fd.p w z) (hst:((v.st.all λq=>(ms.getD q.1 0).testBit i)&&V.all λy=>y.dead != some i)=true) (hno:(G.all λe=>e.tag != some i)=true) (hal:(A.all λp=>p.var != v.id||p.tag.any λj=>(ms.getD j 0).testBit i)=true):
  OpOk P ops ms c V A G i ⟨some d,.alloc T,ty,pos,au,none⟩:=by
 obtain⟨⟨k,hk⟩,hb⟩:=dF hv
 exact kI k hk hb hst hno hal hT bT hz lG hn.symm (λu hu=>Bn [l] u (by simpa [hl] using hu)) hc λw=>by rw[hag]; exact hp w
theorem CI (hv:pL i V=some v) (hT:v.T=T) (bT:v.kd=.ptr) (h:Has ms G i x p) (hc:v.c0=pv p) (hf:Fits v.n v.agg p) (hst:((v.st.all λq=>(ms.getD q.1 0).testBit i)&&V.all λy=>y.dead != some i)=true) (hno:(G.all λe=>e.tag != some i)=true) (hal:(A.all λp=>p.var != v.id||p.tag.any λj=>(ms.getD j 0).testBit i)=true):
  OpOk P ops ms c V A G i ⟨some d,.box T x,ty,pos,au,none⟩:=by
 obtain⟨⟨k,hk⟩,hb⟩:=dF hv
 exact AL k hk hb hst hno hal hT bT h hf hc
variable {j:Nat} {b cb:Bool}
theorem Es {op:Op} {dst:Option Nat} (hg:fT j G=some (pB cb)) (h:cb=b->OpOk P ops ms c V A G i ⟨dst,op,ty,pos,au,none⟩) (hA:¬cb=b->lq A i) (hp:¬cb=b->Post G i (aJ undef))
  (hj:(G.all λe=>e.tag != some j||((ms.getD i 0).testBit j&&eT ms i e.till))=true) (hb:(V.all λx=>(x.born != some i&&x.dead != some i)&&x.st.all λq=>q.1 != i)=true):OpOk P ops ms c V A G i ⟨dst,op,ty,pos,au,some (j,b)⟩:=by
 obtain⟨s,f,k,hk⟩:=post hg
 have:=List.all_eq_true.1 hj _ (List.mem_of_getElem? hk)
 exact CL k hk (by simpa using this) h hb hA hp
theorem CJ {φ:Prop} [Decidable φ] {op:Op} {dst:Option Nat} (hg:fT j G=some (jn φ (pB cb))) (h:φ/\cb=b->OpOk P ops ms c V A G i ⟨dst,op,ty,pos,au,none⟩) (hA:¬(φ/\cb=b)->lq A i) (hp:¬(φ/\cb=b)->Post G i (aJ undef))
  (hj:(G.all λe=>e.tag != some j||((ms.getD i 0).testBit j&&eT ms i e.till))=true) (hb:(V.all λx=>(x.born != some i&&x.dead != some i)&&x.st.all λq=>q.1 != i)=true):OpOk P ops ms c V A G i ⟨dst,op,ty,pos,au,some (j,b)⟩:=by
 obtain⟨s,f,k,hk⟩:=post hg
 have:=List.all_eq_true.1 hj _ (List.mem_of_getElem? hk)
 exact AM k hk (by simpa using this) h hb hA hp
end
end Wx
