import Derived.Test.YtfnmkhlleanppaaGreatDoorCWFLeaf
namespace Wx
open Go Go.RowKit
def qZ (ms:List Nat) (i s:Nat):List aK->Option Pred
 |[]=>none
 |⟨t,f,s',p⟩::r=>match Nat.beq s' s&&(nh ms i t&&eI ms i f)with
  |true=>some p
  |false=>qZ ms i s r
def fS (i:Nat):List aK->Option Pred
 |[]=>none
 |⟨none,_,_,_⟩::r=>fS i r
 |⟨some j,_,_,p⟩::r=>match Nat.beq j i with
  |true=>some p
  |false=>fS i r
def eE (s:Nat):List aK->Option Pred
 |[]=>none
 |⟨none,none,s',p⟩::r=>match Nat.beq s' s with
  |true=>some p
  |false=>eE s r
 |_::r=>eE s r
def C2 (ms:List Nat) (i s:Nat):List Al->Option Al
 |[]=>none
 |⟨t,s',v,o,c⟩::r=>match Nat.beq s' s&&nh ms i t with
  |true=>some ⟨t,s',v,o,c⟩
  |false=>C2 ms i s r
def BH (i:Nat):List Al->Option Al
 |[]=>none
 |⟨none,_,_,_,_⟩::r=>BH i r
 |⟨some j,s',v,o,c⟩::r=>match Nat.beq j i with
  |true=>some ⟨some j,s',v,o,c⟩
  |false=>BH i r
def pz (id:Nat):List Vr->Option Vr
 |[]=>none
 |⟨d,s',b,e,kd,T,n,ag,c0,st⟩::r=>match Nat.beq d id with
  |true=>some ⟨d,s',b,e,kd,T,n,ag,c0,st⟩
  |false=>pz id r
def ze (ms:List Nat) (i s:Nat):List Vr->Option Vr
 |[]=>none
 |⟨d,s',b,e,kd,T,n,ag,c0,st⟩::r=>match Nat.beq s' s&&(nh ms i b&&eI ms i e)with
  |true=>some ⟨d,s',b,e,kd,T,n,ag,c0,st⟩
  |false=>ze ms i s r
def qE (i:Nat):List Vr->Option Vr
 |[]=>none
 |⟨_,_,none,_,_,_,_,_,_,_⟩::r=>qE i r
 |⟨d,s',some j,e,kd,T,n,ag,c0,st⟩::r=>match Nat.beq j i with
  |true=>some ⟨d,s',some j,e,kd,T,n,ag,c0,st⟩
  |false=>qE i r
def A9 (i:Nat):List (Nat×Rel)->Option (Rel×List (Nat×Rel))
 |[]=>none
 |(j,q)::r=>match Nat.beq j i with
  |true=>some (q,r)
  |false=>A9 i r
theorem cm {α:Type} {x:α} {r:List α} {y:α} (h:∃k:Nat,r[k]?=some y):∃k:Nat,(x::r)[k]?=some y:=h.elim λk hk=>⟨k+1,hk⟩
variable {ms:List Nat} {i s:Nat} {p:Pred}
theorem sA:∀{G:List aK},qZ ms i s G=some p->∃t f,(∃k:Nat,G[k]?=some ⟨t,f,s,p⟩)/\(nh ms i t&&eI ms i f)=true:=by
 intro G
 induction G with
 |nil=>intro h; cases h
 |cons e r ih=>
  intro h
  obtain⟨t,f,s',p'⟩:=e
  unfold qZ at h
  split at h
  ·rename_i hb
   rw[Bool.and_eq_true]at hb
   have h1:=Nat.eq_of_beq_eq_true hb.1
   subst h1
   cases h
   exact⟨t,f,⟨0,rfl⟩,hb.2⟩
  ·obtain⟨t,f,hk,h2⟩:=ih h
   exact⟨t,f,cm hk,h2⟩
variable {G:List aK}
theorem look (h:qZ ms i s G=some p):Has ms G i (.tmp s) p:=by
 obtain⟨t,f,⟨k,hk⟩,h2⟩:=sA h
 exact .tmp k hk h2
theorem post:∀{G:List aK},fS i G=some p->∃s f,∃k:Nat,G[k]?=some ⟨some i,f,s,p⟩:=by
 intro G
 induction G with
 |nil=>intro h; cases h
 |cons e r ih=>
  intro h
  obtain⟨t,f,s',p'⟩:=e
  cases t with
  |none=>obtain⟨s,f,hk⟩:=ih h; exact⟨s,f,cm hk⟩
  |some j=>
   simp only[fS]at h
   split at h
   ·rename_i hb
    have hb:=Nat.eq_of_beq_eq_true hb
    subst hb
    cases h
    exact⟨s',f,0,rfl⟩
   ·obtain⟨s,f,hk⟩:=ih h; exact⟨s,f,cm hk⟩
theorem pt (h:fS i G=some p):Post G i p:=by
 obtain⟨s,f,k,hk⟩:=post h
 exact .here k hk
variable {φ:Prop}
theorem Gn (hφ:φ) (h:fS i G=some (ji φ p)):Post G i p:=by
 obtain⟨s,f,k,hk⟩:=post h
 exact .Bz hφ k hk
theorem Fh (hφ:¬φ) (h:fS i G=some (ji φ p)):Post G i (aL undef):=by
 obtain⟨s,f,k,hk⟩:=post h
 exact .A6 hφ k hk
theorem iy:∀{G:List aK},eE s G=some p->∃k:Nat,G[k]?=some ⟨none,none,s,p⟩:=by
 intro G
 induction G with
 |nil=>intro h; cases h
 |cons e r ih=>
  intro h
  obtain⟨t,f,s',p'⟩:=e
  cases t with
  |some _=>exact cm (ih h)
  |none=>
   cases f with
   |some _=>exact cm (ih h)
   |none=>
    simp only[eE]at h
    split at h
    ·rename_i hb
     have hb:=Nat.eq_of_beq_eq_true hb
     subst hb
     cases h
     exact⟨0,rfl⟩
    ·exact cm (ih h)
variable {al:Al}
theorem vY:∀{A:List Al},C2 ms i s A=some al->(∃k:Nat,A[k]?=some al)/\al.slot=s/\nh ms i al.tag=true:=by
 intro A
 induction A with
 |nil=>intro h; cases h
 |cons e r ih=>
  intro h
  obtain⟨t,s',v,o,c⟩:=e
  unfold C2 at h
  split at h
  ·rename_i hb
   rw[Bool.and_eq_true]at hb
   cases h
   exact⟨⟨0,rfl⟩,Nat.eq_of_beq_eq_true hb.1,hb.2⟩
  ·obtain⟨h1,h2⟩:=ih h
   exact⟨cm h1,h2⟩
theorem vZ:∀{A:List Al},BH i A=some al->(∃k:Nat,A[k]?=some al)/\al.tag=some i:=by
 intro A
 induction A with
 |nil=>intro h; cases h
 |cons e r ih=>
  intro h
  obtain⟨t,s',v,o,c⟩:=e
  cases t with
  |none=>obtain⟨h1,h2⟩:=ih h; exact⟨cm h1,h2⟩
  |some j=>
   simp only[BH]at h
   split at h
   ·rename_i hb
    have hb:=Nat.eq_of_beq_eq_true hb
    subst hb
    cases h
    exact⟨⟨0,rfl⟩,rfl⟩
   ·obtain⟨h1,h2⟩:=ih h; exact⟨cm h1,h2⟩
variable {x:Vr}
theorem ei {id:Nat}:∀{V:List Vr},pz id V=some x->(∃k:Nat,V[k]?=some x)/\id=x.id:=by
 intro V
 induction V with
 |nil=>intro h; cases h
 |cons e r ih=>
  intro h
  obtain⟨d,s',b,e,kd,T,n,ag,c0,st⟩:=e
  unfold pz at h
  split at h
  ·rename_i hb
   cases h
   exact⟨⟨0,rfl⟩,(Nat.eq_of_beq_eq_true hb).symm⟩
  ·obtain⟨h1,h2⟩:=ih h
   exact⟨cm h1,h2⟩
theorem iV:∀{V:List Vr},ze ms i s V=some x->(∃k:Nat,V[k]?=some x)/\x.slot=s/\bS ms i x=true:=by
 intro V
 induction V with
 |nil=>intro h; cases h
 |cons e r ih=>
  intro h
  obtain⟨d,s',b,e,kd,T,n,ag,c0,st⟩:=e
  unfold ze at h
  split at h
  ·rename_i hb
   rw[Bool.and_eq_true]at hb
   cases h
   exact⟨⟨0,rfl⟩,Nat.eq_of_beq_eq_true hb.1,hb.2⟩
  ·obtain⟨h1,h2⟩:=ih h
   exact⟨cm h1,h2⟩
theorem dN:∀{V:List Vr},qE i V=some x->(∃k:Nat,V[k]?=some x)/\x.born=some i:=by
 intro V
 induction V with
 |nil=>intro h; cases h
 |cons e r ih=>
  intro h
  obtain⟨d,s',b,e,kd,T,n,ag,c0,st⟩:=e
  cases b with
  |none=>obtain⟨h1,h2⟩:=ih h; exact⟨cm h1,h2⟩
  |some j=>
   simp only[qE]at h
   split at h
   ·rename_i hb
    have hb:=Nat.eq_of_beq_eq_true hb
    subst hb
    cases h
    exact⟨⟨0,rfl⟩,rfl⟩
   ·obtain⟨h1,h2⟩:=ih h; exact⟨cm h1,h2⟩
theorem jO {q:Rel} {r:List (Nat×Rel)}:∀{st:List (Nat×Rel)},A9 i st=some (q,r)->∃m,st[m]?=some (i,q)/\st.drop (m+1)=r:=by
 intro st
 induction st with
 |nil=>intro h; cases h
 |cons e l ih=>
  intro h
  obtain⟨j,q'⟩:=e
  unfold A9 at h
  split at h
  ·rename_i hb
   have hb:=Nat.eq_of_beq_eq_true hb
   subst hb
   cases h
   exact⟨0,rfl,rfl⟩
  ·obtain⟨m,h1,h2⟩:=ih h
   exact⟨m+1,h1,h2⟩
section
variable {P:Program} {ops:Array Oper} {ms:List Nat} {c:bO} {V:List Vr} {A:List Al} {G:List aK} {i:Nat}{d:Nat} {x y z:Operand} {ty:TypeId} {pos:String} {ax:Array Edge}{t u:TypeId} {m n:Int} {k:IntKind}
theorem yP (h1:Has ms G i x (aL (.int k m))) (h2:Has ms G i y (aL (.int k n))) (hp:Post G i (pB (decide (m<n)))):OpOk P ops ms c V A G i ⟨some d,.binOp .lss t x y u,ty,pos,ax,none⟩:=cj h1 h2 (λ_=>by cases k<;>rfl) hp
theorem yO (h1:Has ms G i x (aL (.int k m))) (h2:Has ms G i y (aL (.int k n))) (hp:Post G i (pB (decide (m<=n)))):OpOk P ops ms c V A G i ⟨some d,.binOp .leq t x y u,ty,pos,ax,none⟩:=cj h1 h2 (λ_=>by cases k<;>rfl) hp
theorem yM (h1:Has ms G i x (aL (.int k m))) (h2:Has ms G i y (aL (.int k n))) (hp:Post G i (pB (decide (m>n)))):OpOk P ops ms c V A G i ⟨some d,.binOp .gtr t x y u,ty,pos,ax,none⟩:=cj h1 h2 (λ_=>by cases k<;>rfl) hp
theorem yL (h1:Has ms G i x (aL (.int k m))) (h2:Has ms G i y (aL (.int k n))) (hp:Post G i (pB (decide (m>=n)))):OpOk P ops ms c V A G i ⟨some d,.binOp .geq t x y u,ty,pos,ax,none⟩:=cj h1 h2 (λ_=>by cases k<;>rfl) hp
theorem yK (h1:Has ms G i x (aL (.int k m))) (h2:Has ms G i y (aL (.int k n))) (hp:Post G i (pB (decide (m=n)))):OpOk P ops ms c V A G i ⟨some d,.binOp .eql t x y u,ty,pos,ax,none⟩:=cj h1 h2 (v:=.bool (m==n)) (λ_=>by cases k<;>rfl) (by rw[show(m==n)=decide (m=n) by by_cases h:m=n<;>simp[h]]; exact hp)
theorem yS (h1:Has ms G i x (aL (.int k m))) (h2:Has ms G i y (aL (.int k n))) (hp:Post G i (pB (decide (m≠n)))):OpOk P ops ms c V A G i ⟨some d,.binOp .neq t x y u,ty,pos,ax,none⟩:=cj h1 h2 (v:=.bool (m != n)) (λ_=>by cases k<;>rfl) (by rw[show(m != n)=decide (m≠n) by by_cases h:m=n<;>simp[h]]; exact hp)
theorem yI (h1:Has ms G i x (pI m)) (h2:Has ms G i y (pI n)) (hp:Post G i (pI (m+n))) (hr:-9223372036854775808<=m+n/\m+n<=9223372036854775807:=by omega):OpOk P ops ms c V A G i ⟨some d,.binOp .add t x y u,ty,pos,ax,none⟩:=
 cj h1 h2 (v:=.int .i64 (IntKind.i64.wrap (m+n))) (λ_=>rfl) (by rw[IntWalk.i64_in _ hr]; exact hp)
theorem yT (h1:Has ms G i x (pI m)) (h2:Has ms G i y (pI n)) (hp:Post G i (pI (m-n))) (hr:-9223372036854775808<=m-n/\m-n<=9223372036854775807:=by omega):OpOk P ops ms c V A G i ⟨some d,.binOp .sub t x y u,ty,pos,ax,none⟩:=
 cj h1 h2 (v:=.int .i64 (IntKind.i64.wrap (m-n))) (λ_=>rfl) (by rw[IntWalk.i64_in _ hr]; exact hp)
theorem yQ (h1:Has ms G i x (pI m)) (h2:Has ms G i y (pI n)) (hp:Post G i (pI (m*n))) (hr:-9223372036854775808<=m*n/\m*n<=9223372036854775807:=by omega):OpOk P ops ms c V A G i ⟨some d,.binOp .mul t x y u,ty,pos,ax,none⟩:=
 cj h1 h2 (v:=.int .i64 (IntKind.i64.wrap (m*n))) (λ_=>rfl) (by rw[IntWalk.i64_in _ hr]; exact hp)
variable {T:TypeId} {s:Nat} {v:Vr} {p:Pred} {r:List (Nat×Rel)}
theorem iN (hv:ze ms i s V=some v) (cn:v.kd=.ptr) (h:Has ms G i y p) (hm:A9 i v.st=some (pv p,r)) (hr:(r.all λr=>(ms.getD r.1 0).testBit i)=true) (ht:Ty P T v.agg v.n) (hf:Fits v.n v.agg p)
  (dU:(V.all λy=>y.id==v.id||y.st.all λq=>q.1 != i)=true):OpOk P ops ms c V A G i ⟨none,.store T (.tmp s) y,ty,pos,ax,none⟩:=by
 obtain⟨⟨k,hk⟩,h1,h2⟩:=iV hv
 obtain⟨m,h3,h4⟩:=jO hm
 exact uZ k hk h1 h2 cn m h3 (by rw[h4]; exact hr) dU ht h hf
theorem lT {n:Nat} {agg:Bool} {al:Al} {q0 q:Pred} (ha:C2 ms i s A=some al) (hv:pz al.var V=some v) (ho:bS ms i v=true) (cn:v.kd=.ptr) (hst:(v.st.all λq=>q.1==i||((ms.getD i 0).testBit q.1||(ms.getD q.1 0).testBit i))=true)
  (hc:cont (λj=>(ms.getD i 0).testBit j) v.c0 v.st=pv q0) (h:Has ms G i y p) (ht:Ty P T agg n) (hq:∀w cs ds,cs.length=v.n->ds.length=n->q0 w (ai v.agg cs)->p w (ai agg ds)->q w (ai v.agg (cs.take al.off++ds++cs.drop (al.off+n))))
  (hm:A9 i v.st=some (pv q,r)) (hr:(r.all λr=>(ms.getD r.1 0).testBit i)=true) (hcd:al.cond) (hf:Fits n agg p) (hlen:decide (al.off+n<=v.n)=true)
  (dU:(V.all λy=>y.id==v.id||y.st.all λq=>q.1 != i)=true):OpOk P ops ms c V A G i ⟨none,.store T (.tmp s) y,ty,pos,ax,none⟩:=by
 obtain⟨⟨k2,hk2⟩,h1,h2⟩:=vY ha
 obtain⟨⟨k,hk⟩,h3⟩:=ei hv
 obtain⟨m,h5,h6⟩:=jO hm
 exact ql k hk k2 hk2 h1 h3 rfl h2 hcd ho cn hst m h5 (by rw[h6]; exact hr) dU ht hlen hc h hf hq
theorem uO (l:Zl) {z:Value} (hl:l.cs=[z]) (hv:qE i V=some v) (hT:v.T=T) (cn:v.kd=.ptr) (hc:v.c0=pv l.fd.p) (hag:v.agg=false) (hn:v.n=1)
  (hz:∀w,(zeroValue T).run P w=.ok z w) (lB:z.cells=[z].toArray) (hp:∀w,l.fd.p w z) (hst:((v.st.all λq=>(ms.getD q.1 0).testBit i)&&V.all λy=>y.dead != some i)=true) (hno:(G.all λe=>e.tag != some i)=true) (hal:(A.all λp=>p.var != v.id||p.tag.any λj=>(ms.getD j 0).testBit i)=true):
  OpOk P ops ms c V A G i ⟨some d,.alloc T,ty,pos,ax,none⟩:=by
 obtain⟨⟨k,hk⟩,hb⟩:=dN hv
 exact kA k hk hb hst hno hal hT cn hz lB hn.symm (λu hu=>Bh [l] u (by simpa [hl] using hu)) hc λw=>by rw[hag]; exact hp w
theorem CD (hv:qE i V=some v) (hT:v.T=T) (cn:v.kd=.ptr) (h:Has ms G i x p) (hc:v.c0=pv p) (hf:Fits v.n v.agg p) (hst:((v.st.all λq=>(ms.getD q.1 0).testBit i)&&V.all λy=>y.dead != some i)=true) (hno:(G.all λe=>e.tag != some i)=true) (hal:(A.all λp=>p.var != v.id||p.tag.any λj=>(ms.getD j 0).testBit i)=true):
  OpOk P ops ms c V A G i ⟨some d,.box T x,ty,pos,ax,none⟩:=by
 obtain⟨⟨k,hk⟩,hb⟩:=dN hv
 exact AJ k hk hb hst hno hal hT cn h hf hc
variable {j:Nat} {b cb:Bool}
theorem En {op:Op} {dst:Option Nat} (hg:fS j G=some (pB cb)) (h:cb=b->OpOk P ops ms c V A G i ⟨dst,op,ty,pos,ax,none⟩) (hA:¬cb=b->kZ A i) (hp:¬cb=b->Post G i (aL undef))
  (hj:(G.all λe=>e.tag != some j||((ms.getD i 0).testBit j&&eI ms i e.till))=true) (hb:(V.all λx=>(x.born != some i&&x.dead != some i)&&x.st.all λq=>q.1 != i)=true):OpOk P ops ms c V A G i ⟨dst,op,ty,pos,ax,some (j,b)⟩:=by
 obtain⟨s,f,k,hk⟩:=post hg
 have:=List.all_eq_true.1 hj _ (List.mem_of_getElem? hk)
 exact CG k hk (by simpa using this) h hb hA hp
theorem CE {φ:Prop} [Decidable φ] {op:Op} {dst:Option Nat} (hg:fS j G=some (ji φ (pB cb))) (h:φ/\cb=b->OpOk P ops ms c V A G i ⟨dst,op,ty,pos,ax,none⟩) (hA:¬(φ/\cb=b)->kZ A i) (hp:¬(φ/\cb=b)->Post G i (aL undef))
  (hj:(G.all λe=>e.tag != some j||((ms.getD i 0).testBit j&&eI ms i e.till))=true) (hb:(V.all λx=>(x.born != some i&&x.dead != some i)&&x.st.all λq=>q.1 != i)=true):OpOk P ops ms c V A G i ⟨dst,op,ty,pos,ax,some (j,b)⟩:=by
 obtain⟨s,f,k,hk⟩:=post hg
 have:=List.all_eq_true.1 hj _ (List.mem_of_getElem? hk)
 exact AK k hk (by simpa using this) h hb hA hp
end
end Wx
