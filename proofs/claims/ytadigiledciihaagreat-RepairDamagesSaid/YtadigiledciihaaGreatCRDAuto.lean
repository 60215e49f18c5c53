import Derived.Test.YtadigiledciihaaGreatCRDLeaf
namespace Wx
open Go Go.RowKit
def A8 (ms:List Nat) (i s:Nat):List aS->Option Pred
 |[]=>none
 |⟨t,f,s',p⟩::r=>match Nat.beq s' s&&(pq ms i t&&kM ms i f)with
  |true=>some p
  |false=>A8 ms i s r
def lS (i:Nat):List aS->Option Pred
 |[]=>none
 |⟨none,_,_,_⟩::r=>lS i r
 |⟨some j,_,_,p⟩::r=>match Nat.beq j i with
  |true=>some p
  |false=>lS i r
def fL (s:Nat):List aS->Option Pred
 |[]=>none
 |⟨none,none,s',p⟩::r=>match Nat.beq s' s with
  |true=>some p
  |false=>fL s r
 |_::r=>fL s r
def Io (ms:List Nat) (i s:Nat):List Al->Option Al
 |[]=>none
 |⟨t,s',v,o,c⟩::r=>match Nat.beq s' s&&pq ms i t with
  |true=>some ⟨t,s',v,o,c⟩
  |false=>Io ms i s r
def Gf (i:Nat):List Al->Option Al
 |[]=>none
 |⟨none,_,_,_,_⟩::r=>Gf i r
 |⟨some j,s',v,o,c⟩::r=>match Nat.beq j i with
  |true=>some ⟨some j,s',v,o,c⟩
  |false=>Gf i r
def lW (id:Nat):List Vr->Option Vr
 |[]=>none
 |⟨d,s',b,e,kd,T,n,ag,c0,st⟩::r=>match Nat.beq d id with
  |true=>some ⟨d,s',b,e,kd,T,n,ag,c0,st⟩
  |false=>lW id r
def Ly (ms:List Nat) (i s:Nat):List Vr->Option Vr
 |[]=>none
 |⟨d,s',b,e,kd,T,n,ag,c0,st⟩::r=>match Nat.beq s' s&&(pq ms i b&&kM ms i e)with
  |true=>some ⟨d,s',b,e,kd,T,n,ag,c0,st⟩
  |false=>Ly ms i s r
def De (i:Nat):List Vr->Option Vr
 |[]=>none
 |⟨_,_,none,_,_,_,_,_,_,_⟩::r=>De i r
 |⟨d,s',some j,e,kd,T,n,ag,c0,st⟩::r=>match Nat.beq j i with
  |true=>some ⟨d,s',some j,e,kd,T,n,ag,c0,st⟩
  |false=>De i r
def NF (i:Nat):List (Nat×Rel)->Option (Rel×List (Nat×Rel))
 |[]=>none
 |(j,q)::r=>match Nat.beq j i with
  |true=>some (q,r)
  |false=>NF i r
theorem cP {α:Type} {x:α} {r:List α} {y:α} (h:∃k:Nat,r[k]?=some y):∃k:Nat,(x::r)[k]?=some y:=h.elim λk hk=>⟨k+1,hk⟩
variable {ms:List Nat} {i s:Nat} {p:Pred}
theorem Cy:∀{G:List aS},A8 ms i s G=some p->∃t f,(∃k:Nat,G[k]?=some ⟨t,f,s,p⟩)/\(pq ms i t&&kM ms i f)=true:=by
 intro G
 induction G with
 |nil=>intro h; cases h
 |cons e r ih=>
  intro h
  obtain⟨t,f,s',p'⟩:=e
  unfold A8 at h
  split at h
  ·rename_i hb
   rw[Bool.and_eq_true]at hb
   have h1:=Nat.eq_of_beq_eq_true hb.1
   subst h1
   cases h
   exact⟨t,f,⟨0,rfl⟩,hb.2⟩
  ·obtain⟨t,f,hk,h2⟩:=ih h
   exact⟨t,f,cP hk,h2⟩
variable {G:List aS}
theorem look (h:A8 ms i s G=some p):Has ms G i (.tmp s) p:=by
 obtain⟨t,f,⟨k,hk⟩,h2⟩:=Cy h
 exact .tmp k hk h2
theorem post:∀{G:List aS},lS i G=some p->∃s f,∃k:Nat,G[k]?=some ⟨some i,f,s,p⟩:=by
 intro G
 induction G with
 |nil=>intro h; cases h
 |cons e r ih=>
  intro h
  obtain⟨t,f,s',p'⟩:=e
  cases t with
  |none=>obtain⟨s,f,hk⟩:=ih h; exact⟨s,f,cP hk⟩
  |some j=>
   simp only[lS]at h
   split at h
   ·rename_i hb
    have hb:=Nat.eq_of_beq_eq_true hb
    subst hb
    cases h
    exact⟨s',f,0,rfl⟩
   ·obtain⟨s,f,hk⟩:=ih h; exact⟨s,f,cP hk⟩
theorem pt (h:lS i G=some p):Post G i p:=by
 obtain⟨s,f,k,hk⟩:=post h
 exact .here k hk
variable {φ:Prop}
theorem Uw (hφ:φ) (h:lS i G=some (sK φ p)):Post G i p:=by
 obtain⟨s,f,k,hk⟩:=post h
 exact .Lt hφ k hk
theorem Uv (hφ:¬φ) (h:lS i G=some (sK φ p)):Post G i (bK undef):=by
 obtain⟨s,f,k,hk⟩:=post h
 exact .La hφ k hk
theorem dW:∀{G:List aS},fL s G=some p->∃k:Nat,G[k]?=some ⟨none,none,s,p⟩:=by
 intro G
 induction G with
 |nil=>intro h; cases h
 |cons e r ih=>
  intro h
  obtain⟨t,f,s',p'⟩:=e
  cases t with
  |some _=>exact cP (ih h)
  |none=>
   cases f with
   |some _=>exact cP (ih h)
   |none=>
    simp only[fL]at h
    split at h
    ·rename_i hb
     have hb:=Nat.eq_of_beq_eq_true hb
     subst hb
     cases h
     exact⟨0,rfl⟩
    ·exact cP (ih h)
variable {al:Al}
theorem pJ:∀{A:List Al},Io ms i s A=some al->(∃k:Nat,A[k]?=some al)/\al.slot=s/\pq ms i al.tag=true:=by
 intro A
 induction A with
 |nil=>intro h; cases h
 |cons e r ih=>
  intro h
  obtain⟨t,s',v,o,c⟩:=e
  unfold Io at h
  split at h
  ·rename_i hb
   rw[Bool.and_eq_true]at hb
   cases h
   exact⟨⟨0,rfl⟩,Nat.eq_of_beq_eq_true hb.1,hb.2⟩
  ·obtain⟨h1,h2⟩:=ih h
   exact⟨cP h1,h2⟩
theorem mH:∀{A:List Al},Gf i A=some al->(∃k:Nat,A[k]?=some al)/\al.tag=some i:=by
 intro A
 induction A with
 |nil=>intro h; cases h
 |cons e r ih=>
  intro h
  obtain⟨t,s',v,o,c⟩:=e
  cases t with
  |none=>obtain⟨h1,h2⟩:=ih h; exact⟨cP h1,h2⟩
  |some j=>
   simp only[Gf]at h
   split at h
   ·rename_i hb
    have hb:=Nat.eq_of_beq_eq_true hb
    subst hb
    cases h
    exact⟨⟨0,rfl⟩,rfl⟩
   ·obtain⟨h1,h2⟩:=ih h; exact⟨cP h1,h2⟩
variable {x:Vr}
theorem ee {id:Nat}:∀{V:List Vr},lW id V=some x->(∃k:Nat,V[k]?=some x)/\id=x.id:=by
 intro V
 induction V with
 |nil=>intro h; cases h
 |cons e r ih=>
  intro h
  obtain⟨d,s',b,e,kd,T,n,ag,c0,st⟩:=e
  unfold lW at h
  split at h
  ·rename_i hb
   cases h
   exact⟨⟨0,rfl⟩,(Nat.eq_of_beq_eq_true hb).symm⟩
  ·obtain⟨h1,h2⟩:=ih h
   exact⟨cP h1,h2⟩
theorem vG:∀{V:List Vr},Ly ms i s V=some x->(∃k:Nat,V[k]?=some x)/\x.slot=s/\bH ms i x=true:=by
 intro V
 induction V with
 |nil=>intro h; cases h
 |cons e r ih=>
  intro h
  obtain⟨d,s',b,e,kd,T,n,ag,c0,st⟩:=e
  unfold Ly at h
  split at h
  ·rename_i hb
   rw[Bool.and_eq_true]at hb
   cases h
   exact⟨⟨0,rfl⟩,Nat.eq_of_beq_eq_true hb.1,hb.2⟩
  ·obtain⟨h1,h2⟩:=ih h
   exact⟨cP h1,h2⟩
theorem jE:∀{V:List Vr},De i V=some x->(∃k:Nat,V[k]?=some x)/\x.born=some i:=by
 intro V
 induction V with
 |nil=>intro h; cases h
 |cons e r ih=>
  intro h
  obtain⟨d,s',b,e,kd,T,n,ag,c0,st⟩:=e
  cases b with
  |none=>obtain⟨h1,h2⟩:=ih h; exact⟨cP h1,h2⟩
  |some j=>
   simp only[De]at h
   split at h
   ·rename_i hb
    have hb:=Nat.eq_of_beq_eq_true hb
    subst hb
    cases h
    exact⟨⟨0,rfl⟩,rfl⟩
   ·obtain⟨h1,h2⟩:=ih h; exact⟨cP h1,h2⟩
theorem Bz {q:Rel} {r:List (Nat×Rel)}:∀{st:List (Nat×Rel)},NF i st=some (q,r)->∃m,st[m]?=some (i,q)/\st.drop (m+1)=r:=by
 intro st
 induction st with
 |nil=>intro h; cases h
 |cons e l ih=>
  intro h
  obtain⟨j,q'⟩:=e
  unfold NF at h
  split at h
  ·rename_i hb
   have hb:=Nat.eq_of_beq_eq_true hb
   subst hb
   cases h
   exact⟨0,rfl,rfl⟩
  ·obtain⟨m,h1,h2⟩:=ih h
   exact⟨m+1,h1,h2⟩
section
variable {P:Program} {ops:Array Oper} {ms:List Nat} {c:cT} {V:List Vr} {A:List Al} {G:List aS} {i:Nat}{d:Nat} {x y z:Operand} {ty:TypeId} {pos:String} {aJ:Array Edge}{t u:TypeId} {m n:Int} {k:IntKind}
theorem Jc (h1:Has ms G i x (bK (.int k m))) (h2:Has ms G i y (bK (.int k n))) (hp:Post G i (pB (decide (m<n)))):OpOk P ops ms c V A G i ⟨some d,.binOp .lss t x y u,ty,pos,aJ,none⟩:=fF h1 h2 (λ_=>by cases k<;>rfl) hp
theorem Jb (h1:Has ms G i x (bK (.int k m))) (h2:Has ms G i y (bK (.int k n))) (hp:Post G i (pB (decide (m<=n)))):OpOk P ops ms c V A G i ⟨some d,.binOp .leq t x y u,ty,pos,aJ,none⟩:=fF h1 h2 (λ_=>by cases k<;>rfl) hp
theorem I9 (h1:Has ms G i x (bK (.int k m))) (h2:Has ms G i y (bK (.int k n))) (hp:Post G i (pB (decide (m>n)))):OpOk P ops ms c V A G i ⟨some d,.binOp .gtr t x y u,ty,pos,aJ,none⟩:=fF h1 h2 (λ_=>by cases k<;>rfl) hp
theorem I8 (h1:Has ms G i x (bK (.int k m))) (h2:Has ms G i y (bK (.int k n))) (hp:Post G i (pB (decide (m>=n)))):OpOk P ops ms c V A G i ⟨some d,.binOp .geq t x y u,ty,pos,aJ,none⟩:=fF h1 h2 (λ_=>by cases k<;>rfl) hp
theorem I7 (h1:Has ms G i x (bK (.int k m))) (h2:Has ms G i y (bK (.int k n))) (hp:Post G i (pB (decide (m=n)))):OpOk P ops ms c V A G i ⟨some d,.binOp .eql t x y u,ty,pos,aJ,none⟩:=fF h1 h2 (v:=.bool (m==n)) (λ_=>by cases k<;>rfl) (by rw[show(m==n)=decide (m=n) by by_cases h:m=n<;>simp[h]]; exact hp)
theorem Je (h1:Has ms G i x (bK (.int k m))) (h2:Has ms G i y (bK (.int k n))) (hp:Post G i (pB (decide (m≠n)))):OpOk P ops ms c V A G i ⟨some d,.binOp .neq t x y u,ty,pos,aJ,none⟩:=fF h1 h2 (v:=.bool (m != n)) (λ_=>by cases k<;>rfl) (by rw[show(m != n)=decide (m≠n) by by_cases h:m=n<;>simp[h]]; exact hp)
theorem I6 (h1:Has ms G i x (pI m)) (h2:Has ms G i y (pI n)) (hp:Post G i (pI (m+n))) (hr:-9223372036854775808<=m+n/\m+n<=9223372036854775807:=by omega):OpOk P ops ms c V A G i ⟨some d,.binOp .add t x y u,ty,pos,aJ,none⟩:=
 fF h1 h2 (v:=.int .i64 (IntKind.i64.wrap (m+n))) (λ_=>rfl) (by rw[IntWalk.i64_in _ hr]; exact hp)
theorem Jg (h1:Has ms G i x (pI m)) (h2:Has ms G i y (pI n)) (hp:Post G i (pI (m-n))) (hr:-9223372036854775808<=m-n/\m-n<=9223372036854775807:=by omega):OpOk P ops ms c V A G i ⟨some d,.binOp .sub t x y u,ty,pos,aJ,none⟩:=
 fF h1 h2 (v:=.int .i64 (IntKind.i64.wrap (m-n))) (λ_=>rfl) (by rw[IntWalk.i64_in _ hr]; exact hp)
theorem Jd (h1:Has ms G i x (pI m)) (h2:Has ms G i y (pI n)) (hp:Post G i (pI (m*n))) (hr:-9223372036854775808<=m*n/\m*n<=9223372036854775807:=by omega):OpOk P ops ms c V A G i ⟨some d,.binOp .mul t x y u,ty,pos,aJ,none⟩:=
 fF h1 h2 (v:=.int .i64 (IntKind.i64.wrap (m*n))) (λ_=>rfl) (by rw[IntWalk.i64_in _ hr]; exact hp)
variable {T:TypeId} {s:Nat} {v:Vr} {p:Pred}
theorem o_load (hv:Ly ms i s V=some v) (cq:v.kd=.ptr) (hst:(v.st.all λq=>(ms.getD i 0).testBit q.1||(ms.getD q.1 0).testBit i)=true)
  (hc:cont (λj=>(ms.getD i 0).testBit j) v.c0 v.st=pv p) (hp:Post G i p) (ht:Ty P T v.agg v.n):OpOk P ops ms c V A G i ⟨some d,.load T (.tmp s),ty,pos,aJ,none⟩:=by
 obtain⟨⟨k,hk⟩,h1,h2⟩:=vG hv
 exact nw k hk h1 h2 cq hst ht hc hp
variable {agg:Bool} {al:Al} {q:Pred}
theorem ru {n:Nat} (ha:Io ms i s A=some al) (hv:lW al.var V=some v) (ho:bH ms i v=true) (cq:v.kd=.ptr) (hst:(v.st.all λq=>(ms.getD i 0).testBit q.1||(ms.getD q.1 0).testBit i)=true)
  (hc:cont (λj=>(ms.getD i 0).testBit j) v.c0 v.st=pv p) (ht:Ty P T agg n) (hq:∀w cs,cs.length=v.n->p w (ak v.agg cs)->q w (ak agg ((cs.drop al.off).take n))) (hcd:al.cond) (hp:Post G i q) (hlen:decide (al.off+n<=v.n)=true):OpOk P ops ms c V A G i ⟨some d,.load T (.tmp s),ty,pos,aJ,none⟩:=by
 obtain⟨⟨k2,hk2⟩,h1,h2⟩:=pJ ha
 obtain⟨⟨k,hk⟩,h3⟩:=ee hv
 exact bD k hk k2 hk2 h1 h3 rfl h2 hcd ho cq hst ht hlen hc hq hp
variable {S f off:Nat}
theorem Bc (ha:Gf i A=some al) (hv:lW al.var V=some v) (ho:bH ms i v=true) (cq:v.kd=.ptr) (hs:v.slot=s)
  (hf:∀b w,(Instr.fieldAt S (.pointer (some ⟨b,0,none⟩)) f).run P w=.ok (.pointer (some ⟨b,off,none⟩)) w) (fo:al.off=off) (hu:(A.filter λq=>q.tag==some i).length=1) (hno:(G.all λe=>e.tag != some i)=true):
  OpOk P ops ms c V A G i ⟨some d,.fieldAddr S (.tmp s) f,ty,pos,aJ,none⟩:=by
 obtain⟨⟨k2,hk2⟩,h1⟩:=mH ha
 obtain⟨⟨k,hk⟩,h3⟩:=ee hv
 exact bJ k hk ho cq k2 hk2 h1 h3 fo (.inl ⟨hs.symm,rfl⟩) hu hno hf
variable {nM:Al}
theorem tJ (ha:Gf i A=some al) (ha0:Io ms i s A=some nM) (hv:lW al.var V=some v) (hv0:nM.var=al.var) (ho:bH ms i v=true) (cq:v.kd=.ptr)
  (hf:∀b w,(Instr.fieldAt S (.pointer (some ⟨b,nM.off,none⟩)) f).run P w=.ok (.pointer (some ⟨b,off,none⟩)) w) (fo:al.off=off) (hcd:nM.cond) (hu:(A.filter λq=>q.tag==some i).length=1) (hno:(G.all λe=>e.tag != some i)=true):
  OpOk P ops ms c V A G i ⟨some d,.fieldAddr S (.tmp s) f,ty,pos,aJ,none⟩:=by
 obtain⟨⟨k2,hk2⟩,h1⟩:=mH ha
 obtain⟨⟨k3,hk3⟩,h4,h5⟩:=pJ ha0
 obtain⟨⟨k,hk⟩,h3⟩:=ee hv
 exact bJ k hk ho cq k2 hk2 h1 h3 fo (.inr ⟨k3,nM,hk3,h4,hv0.trans h3,rfl,h5,hcd⟩) hu hno hf
theorem Be (ha:Gf i A=some al) (hv:lW al.var V=some v) (ho:bH ms i v=true) (cq:v.kd=.ptr) (hs:v.slot=s) (MG:Has ms G i y (pI n))
  (hf:∀b w,(Instr.indexAt S (.pointer (some ⟨b,0,none⟩)) (.int .i64 n)).run P w=.ok (.pointer (some ⟨b,off,none⟩)) w) (fo:al.off=off) (hu:(A.filter λq=>q.tag==some i).length=1) (hno:(G.all λe=>e.tag != some i)=true):
  OpOk P ops ms c V A G i ⟨some d,.indexAddr S (.tmp s) y,ty,pos,aJ,none⟩:=by
 obtain⟨⟨k2,hk2⟩,h1⟩:=mH ha
 obtain⟨⟨k,hk⟩,h3⟩:=ee hv
 exact xI k hk ho cq k2 hk2 h1 h3 fo (.inl ⟨hs.symm,rfl⟩) hu hno MG hf
theorem tK (ha:Gf i A=some al) (ha0:Io ms i s A=some nM) (hv:lW al.var V=some v) (hv0:nM.var=al.var) (ho:bH ms i v=true) (cq:v.kd=.ptr) (MG:Has ms G i y (pI n))
  (hf:∀b w,(Instr.indexAt S (.pointer (some ⟨b,nM.off,none⟩)) (.int .i64 n)).run P w=.ok (.pointer (some ⟨b,off,none⟩)) w) (fo:al.off=off) (hcd:nM.cond) (hu:(A.filter λq=>q.tag==some i).length=1) (hno:(G.all λe=>e.tag != some i)=true):
  OpOk P ops ms c V A G i ⟨some d,.indexAddr S (.tmp s) y,ty,pos,aJ,none⟩:=by
 obtain⟨⟨k2,hk2⟩,h1⟩:=mH ha
 obtain⟨⟨k3,hk3⟩,h4,h5⟩:=pJ ha0
 obtain⟨⟨k,hk⟩,h3⟩:=ee hv
 exact xI k hk ho cq k2 hk2 h1 h3 fo (.inr ⟨k3,nM,hk3,h4,hv0.trans h3,rfl,h5,hcd⟩) hu hno MG hf
variable {r:List (Nat×Rel)}
theorem Bf (hv:Ly ms i s V=some v) (cq:v.kd=.ptr) (h:Has ms G i y p) (hm:NF i v.st=some (pv p,r)) (hr:(r.all λr=>(ms.getD r.1 0).testBit i)=true) (ht:Ty P T v.agg v.n) (hf:Fits v.n v.agg p)
  (zf:(V.all λy=>y.id==v.id||y.st.all λq=>q.1 != i)=true):OpOk P ops ms c V A G i ⟨none,.store T (.tmp s) y,ty,pos,aJ,none⟩:=by
 obtain⟨⟨k,hk⟩,h1,h2⟩:=vG hv
 obtain⟨m,h3,h4⟩:=Bz hm
 exact gz k hk h1 h2 cq m h3 (by rw[h4]; exact hr) zf ht h hf
theorem tL {n:Nat} {q0:Pred} (ha:Io ms i s A=some al) (hv:lW al.var V=some v) (ho:bH ms i v=true) (cq:v.kd=.ptr) (hst:(v.st.all λq=>q.1==i||((ms.getD i 0).testBit q.1||(ms.getD q.1 0).testBit i))=true)
  (hc:cont (λj=>(ms.getD i 0).testBit j) v.c0 v.st=pv q0) (h:Has ms G i y p) (ht:Ty P T agg n) (hq:∀w cs ds,cs.length=v.n->ds.length=n->q0 w (ak v.agg cs)->p w (ak agg ds)->q w (ak v.agg (cs.take al.off++ds++cs.drop (al.off+n))))
  (hm:NF i v.st=some (pv q,r)) (hr:(r.all λr=>(ms.getD r.1 0).testBit i)=true) (hcd:al.cond) (hf:Fits n agg p) (hlen:decide (al.off+n<=v.n)=true)
  (zf:(V.all λy=>y.id==v.id||y.st.all λq=>q.1 != i)=true):OpOk P ops ms c V A G i ⟨none,.store T (.tmp s) y,ty,pos,aJ,none⟩:=by
 obtain⟨⟨k2,hk2⟩,h1,h2⟩:=pJ ha
 obtain⟨⟨k,hk⟩,h3⟩:=ee hv
 obtain⟨m,h5,h6⟩:=Bz hm
 exact zH k hk k2 hk2 h1 h3 rfl h2 hcd ho cq hst m h5 (by rw[h6]; exact hr) zf ht hlen hc h hf hq
theorem G6 (l:List Zl) (hv:De i V=some v) (hT:v.T=T) (cq:v.kd=.ptr) (hc:v.c0=pv (pS (l.map Zl.fd))) (Cb:v.agg=true)
  (hz:∀w,(zeroValue T).run P w=.ok (.agg (l.flatMap Zl.cs).toArray) w) (hl:(l.flatMap Zl.cs).length=v.n) (hst:((v.st.all λq=>(ms.getD q.1 0).testBit i)&&V.all λy=>y.dead != some i)=true) (hno:(G.all λe=>e.tag != some i)=true) (fo:(A.all λp=>p.var != v.id||p.tag.any λj=>(ms.getD j 0).testBit i)=true):
  OpOk P ops ms c V A G i ⟨some d,.alloc T,ty,pos,aJ,none⟩:=by
 obtain⟨⟨k,hk⟩,hb⟩:=jE hv
 exact iR k hk hb hst hno fo hT cq hz rfl hl (Af l) hc λw=>by rw[Cb]; exact Ae l w
theorem EM (l:Zl) {z:Value} (hl:l.cs=[z]) (hv:De i V=some v) (hT:v.T=T) (cq:v.kd=.ptr) (hc:v.c0=pv l.fd.p) (Cb:v.agg=false) (hn:v.n=1)
  (hz:∀w,(zeroValue T).run P w=.ok z w) (uL:z.cells=[z].toArray) (hp:∀w,l.fd.p w z) (hst:((v.st.all λq=>(ms.getD q.1 0).testBit i)&&V.all λy=>y.dead != some i)=true) (hno:(G.all λe=>e.tag != some i)=true) (fo:(A.all λp=>p.var != v.id||p.tag.any λj=>(ms.getD j 0).testBit i)=true):
  OpOk P ops ms c V A G i ⟨some d,.alloc T,ty,pos,aJ,none⟩:=by
 obtain⟨⟨k,hk⟩,hb⟩:=jE hv
 exact iR k hk hb hst hno fo hT cq hz uL hn.symm (λu hu=>Af [l] u (by simpa [hl] using hu)) hc λw=>by rw[Cb]; exact hp w
theorem Nu (hv:De i V=some v) (hT:v.T=T) (cq:v.kd=.ptr) (h:Has ms G i x p) (hc:v.c0=pv p) (hf:Fits v.n v.agg p) (hst:((v.st.all λq=>(ms.getD q.1 0).testBit i)&&V.all λy=>y.dead != some i)=true) (hno:(G.all λe=>e.tag != some i)=true) (fo:(A.all λp=>p.var != v.id||p.tag.any λj=>(ms.getD j 0).testBit i)=true):
  OpOk P ops ms c V A G i ⟨some d,.box T x,ty,pos,aJ,none⟩:=by
 obtain⟨⟨k,hk⟩,hb⟩:=jE hv
 exact rA k hk hb hst hno fo hT cq h hf hc
theorem QJ {j:Nat} {b cb:Bool} {op:Op} {dst:Option Nat} (hg:lS j G=some (pB cb)) (h:cb=b->OpOk P ops ms c V A G i ⟨dst,op,ty,pos,aJ,none⟩) (hA:¬cb=b->yA A i) (hp:¬cb=b->Post G i (bK undef))
  (hj:(G.all λe=>e.tag != some j||((ms.getD i 0).testBit j&&kM ms i e.till))=true) (hb:(V.all λx=>(x.born != some i&&x.dead != some i)&&x.st.all λq=>q.1 != i)=true):OpOk P ops ms c V A G i ⟨dst,op,ty,pos,aJ,some (j,b)⟩:=by
 obtain⟨s,f,k,hk⟩:=post hg
 have:=List.all_eq_true.1 hj _ (List.mem_of_getElem? hk)
 exact Nv k hk (by simpa using this) h hb hA hp
end
end Wx
