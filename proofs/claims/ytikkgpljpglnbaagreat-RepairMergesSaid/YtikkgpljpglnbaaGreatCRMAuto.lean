import Derived.Test.YtikkgpljpglnbaaGreatJRM18
namespace Wx
open Go Go.RowKit
def Am (ms:List Nat) (i s:Nat):List aQ->Option Pred
 |[]=>none
 |⟨t,f,s',p⟩::r=>match Nat.beq s' s&&(oO ms i t&&gJ ms i f)with
  |true=>some p
  |false=>Am ms i s r
def js (i:Nat):List aQ->Option Pred
 |[]=>none
 |⟨none,_,_,_⟩::r=>js i r
 |⟨some j,_,_,p⟩::r=>match Nat.beq j i with
  |true=>some p
  |false=>js i r
def eK (s:Nat):List aQ->Option Pred
 |[]=>none
 |⟨none,none,s',p⟩::r=>match Nat.beq s' s with
  |true=>some p
  |false=>eK s r
 |_::r=>eK s r
def G9 (ms:List Nat) (i s:Nat):List Al->Option Al
 |[]=>none
 |⟨t,s',v,o,c⟩::r=>match Nat.beq s' s&&oO ms i t with
  |true=>some ⟨t,s',v,o,c⟩
  |false=>G9 ms i s r
def Fl (i:Nat):List Al->Option Al
 |[]=>none
 |⟨none,_,_,_,_⟩::r=>Fl i r
 |⟨some j,s',v,o,c⟩::r=>match Nat.beq j i with
  |true=>some ⟨some j,s',v,o,c⟩
  |false=>Fl i r
def jv (id:Nat):List Vr->Option Vr
 |[]=>none
 |⟨d,s',b,e,kd,T,n,ag,c0,st⟩::r=>match Nat.beq d id with
  |true=>some ⟨d,s',b,e,kd,T,n,ag,c0,st⟩
  |false=>jv id r
def KA (ms:List Nat) (i s:Nat):List Vr->Option Vr
 |[]=>none
 |⟨d,s',b,e,kd,T,n,ag,c0,st⟩::r=>match Nat.beq s' s&&(oO ms i b&&gJ ms i e)with
  |true=>some ⟨d,s',b,e,kd,T,n,ag,c0,st⟩
  |false=>KA ms i s r
def AY (i:Nat):List Vr->Option Vr
 |[]=>none
 |⟨_,_,none,_,_,_,_,_,_,_⟩::r=>AY i r
 |⟨d,s',some j,e,kd,T,n,ag,c0,st⟩::r=>match Nat.beq j i with
  |true=>some ⟨d,s',some j,e,kd,T,n,ag,c0,st⟩
  |false=>AY i r
def Kv (i:Nat):List (Nat×Rel)->Option (Rel×List (Nat×Rel))
 |[]=>none
 |(j,q)::r=>match Nat.beq j i with
  |true=>some (q,r)
  |false=>Kv i r
theorem cK {α:Type} {x:α} {r:List α} {y:α} (h:∃k:Nat,r[k]?=some y):∃k:Nat,(x::r)[k]?=some y:=h.elim λk hk=>⟨k+1,hk⟩
variable {ms:List Nat} {i s:Nat} {p:Pred}
theorem BG:∀{G:List aQ},Am ms i s G=some p->∃t f,(∃k:Nat,G[k]?=some ⟨t,f,s,p⟩)/\(oO ms i t&&gJ ms i f)=true:=by
 intro G
 induction G with
 |nil=>intro h; cases h
 |cons e r ih=>
  intro h
  obtain⟨t,f,s',p'⟩:=e
  unfold Am at h
  split at h
  ·rename_i hb
   rw[Bool.and_eq_true]at hb
   have h1:=Nat.eq_of_beq_eq_true hb.1
   subst h1
   cases h
   exact⟨t,f,⟨0,rfl⟩,hb.2⟩
  ·obtain⟨t,f,hk,h2⟩:=ih h
   exact⟨t,f,cK hk,h2⟩
variable {G:List aQ}
theorem look (h:Am ms i s G=some p):Has ms G i (.tmp s) p:=by
 obtain⟨t,f,⟨k,hk⟩,h2⟩:=BG h
 exact .tmp k hk h2
theorem post:∀{G:List aQ},js i G=some p->∃s f,∃k:Nat,G[k]?=some ⟨some i,f,s,p⟩:=by
 intro G
 induction G with
 |nil=>intro h; cases h
 |cons e r ih=>
  intro h
  obtain⟨t,f,s',p'⟩:=e
  cases t with
  |none=>obtain⟨s,f,hk⟩:=ih h; exact⟨s,f,cK hk⟩
  |some j=>
   simp only[js]at h
   split at h
   ·rename_i hb
    have hb:=Nat.eq_of_beq_eq_true hb
    subst hb
    cases h
    exact⟨s',f,0,rfl⟩
   ·obtain⟨s,f,hk⟩:=ih h; exact⟨s,f,cK hk⟩
theorem pt (h:js i G=some p):Post G i p:=by
 obtain⟨s,f,k,hk⟩:=post h
 exact .here k hk
variable {φ:Prop}
theorem TR (hφ:φ) (h:js i G=some (nK φ p)):Post G i p:=by
 obtain⟨s,f,k,hk⟩:=post h
 exact .KZ hφ k hk
theorem RQ (hφ:¬φ) (h:js i G=some (nK φ p)):Post G i (bg undef):=by
 obtain⟨s,f,k,hk⟩:=post h
 exact .Kr hφ k hk
theorem dh:∀{G:List aQ},eK s G=some p->∃k:Nat,G[k]?=some ⟨none,none,s,p⟩:=by
 intro G
 induction G with
 |nil=>intro h; cases h
 |cons e r ih=>
  intro h
  obtain⟨t,f,s',p'⟩:=e
  cases t with
  |some _=>exact cK (ih h)
  |none=>
   cases f with
   |some _=>exact cK (ih h)
   |none=>
    simp only[eK]at h
    split at h
    ·rename_i hb
     have hb:=Nat.eq_of_beq_eq_true hb
     subst hb
     cases h
     exact⟨0,rfl⟩
    ·exact cK (ih h)
variable {al:Al}
theorem oZ:∀{A:List Al},G9 ms i s A=some al->(∃k:Nat,A[k]?=some al)/\al.slot=s/\oO ms i al.tag=true:=by
 intro A
 induction A with
 |nil=>intro h; cases h
 |cons e r ih=>
  intro h
  obtain⟨t,s',v,o,c⟩:=e
  unfold G9 at h
  split at h
  ·rename_i hb
   rw[Bool.and_eq_true]at hb
   cases h
   exact⟨⟨0,rfl⟩,Nat.eq_of_beq_eq_true hb.1,hb.2⟩
  ·obtain⟨h1,h2⟩:=ih h
   exact⟨cK h1,h2⟩
theorem lQ:∀{A:List Al},Fl i A=some al->(∃k:Nat,A[k]?=some al)/\al.tag=some i:=by
 intro A
 induction A with
 |nil=>intro h; cases h
 |cons e r ih=>
  intro h
  obtain⟨t,s',v,o,c⟩:=e
  cases t with
  |none=>obtain⟨h1,h2⟩:=ih h; exact⟨cK h1,h2⟩
  |some j=>
   simp only[Fl]at h
   split at h
   ·rename_i hb
    have hb:=Nat.eq_of_beq_eq_true hb
    subst hb
    cases h
    exact⟨⟨0,rfl⟩,rfl⟩
   ·obtain⟨h1,h2⟩:=ih h; exact⟨cK h1,h2⟩
variable {x:Vr}
theorem cC {id:Nat}:∀{V:List Vr},jv id V=some x->(∃k:Nat,V[k]?=some x)/\id=x.id:=by
 intro V
 induction V with
 |nil=>intro h; cases h
 |cons e r ih=>
  intro h
  obtain⟨d,s',b,e,kd,T,n,ag,c0,st⟩:=e
  unfold jv at h
  split at h
  ·rename_i hb
   cases h
   exact⟨⟨0,rfl⟩,(Nat.eq_of_beq_eq_true hb).symm⟩
  ·obtain⟨h1,h2⟩:=ih h
   exact⟨cK h1,h2⟩
theorem pL:∀{V:List Vr},KA ms i s V=some x->(∃k:Nat,V[k]?=some x)/\x.slot=s/\aX ms i x=true:=by
 intro V
 induction V with
 |nil=>intro h; cases h
 |cons e r ih=>
  intro h
  obtain⟨d,s',b,e,kd,T,n,ag,c0,st⟩:=e
  unfold KA at h
  split at h
  ·rename_i hb
   rw[Bool.and_eq_true]at hb
   cases h
   exact⟨⟨0,rfl⟩,Nat.eq_of_beq_eq_true hb.1,hb.2⟩
  ·obtain⟨h1,h2⟩:=ih h
   exact⟨cK h1,h2⟩
theorem gP:∀{V:List Vr},AY i V=some x->(∃k:Nat,V[k]?=some x)/\x.born=some i:=by
 intro V
 induction V with
 |nil=>intro h; cases h
 |cons e r ih=>
  intro h
  obtain⟨d,s',b,e,kd,T,n,ag,c0,st⟩:=e
  cases b with
  |none=>obtain⟨h1,h2⟩:=ih h; exact⟨cK h1,h2⟩
  |some j=>
   simp only[AY]at h
   split at h
   ·rename_i hb
    have hb:=Nat.eq_of_beq_eq_true hb
    subst hb
    cases h
    exact⟨⟨0,rfl⟩,rfl⟩
   ·obtain⟨h1,h2⟩:=ih h; exact⟨cK h1,h2⟩
theorem pH {q:Rel} {r:List (Nat×Rel)}:∀{st:List (Nat×Rel)},Kv i st=some (q,r)->∃m,st[m]?=some (i,q)/\st.drop (m+1)=r:=by
 intro st
 induction st with
 |nil=>intro h; cases h
 |cons e l ih=>
  intro h
  obtain⟨j,q'⟩:=e
  unfold Kv at h
  split at h
  ·rename_i hb
   have hb:=Nat.eq_of_beq_eq_true hb
   subst hb
   cases h
   exact⟨0,rfl,rfl⟩
  ·obtain⟨m,h1,h2⟩:=ih h
   exact⟨m+1,h1,h2⟩
section
variable {P:Program} {ops:Array Oper} {ms:List Nat} {c:cF} {V:List Vr} {A:List Al} {G:List aQ} {i:Nat}{d:Nat} {x y z:Operand} {ty:TypeId} {pos:String} {aI:Array Edge}{t u:TypeId} {m n:Int} {k:IntKind}
theorem IE (h1:Has ms G i x (bg (.int k m))) (h2:Has ms G i y (bg (.int k n))) (hp:Post G i (pB (decide (m<n)))):OpOk P ops ms c V A G i ⟨some d,.binOp .lss t x y u,ty,pos,aI,none⟩:=gm h1 h2 (λ_=>by cases k<;>rfl) hp
theorem ID (h1:Has ms G i x (bg (.int k m))) (h2:Has ms G i y (bg (.int k n))) (hp:Post G i (pB (decide (m<=n)))):OpOk P ops ms c V A G i ⟨some d,.binOp .leq t x y u,ty,pos,aI,none⟩:=gm h1 h2 (λ_=>by cases k<;>rfl) hp
theorem IB (h1:Has ms G i x (bg (.int k m))) (h2:Has ms G i y (bg (.int k n))) (hp:Post G i (pB (decide (m>n)))):OpOk P ops ms c V A G i ⟨some d,.binOp .gtr t x y u,ty,pos,aI,none⟩:=gm h1 h2 (λ_=>by cases k<;>rfl) hp
theorem IA (h1:Has ms G i x (bg (.int k m))) (h2:Has ms G i y (bg (.int k n))) (hp:Post G i (pB (decide (m>=n)))):OpOk P ops ms c V A G i ⟨some d,.binOp .geq t x y u,ty,pos,aI,none⟩:=gm h1 h2 (λ_=>by cases k<;>rfl) hp
theorem Iz (h1:Has ms G i x (bg (.int k m))) (h2:Has ms G i y (bg (.int k n))) (hp:Post G i (pB (decide (m=n)))):OpOk P ops ms c V A G i ⟨some d,.binOp .eql t x y u,ty,pos,aI,none⟩:=gm h1 h2 (v:=.bool (m==n)) (λ_=>by cases k<;>rfl) (by rw[show(m==n)=decide (m=n) by by_cases h:m=n<;>simp[h]]; exact hp)
theorem IG (h1:Has ms G i x (bg (.int k m))) (h2:Has ms G i y (bg (.int k n))) (hp:Post G i (pB (decide (m≠n)))):OpOk P ops ms c V A G i ⟨some d,.binOp .neq t x y u,ty,pos,aI,none⟩:=gm h1 h2 (v:=.bool (m != n)) (λ_=>by cases k<;>rfl) (by rw[show(m != n)=decide (m≠n) by by_cases h:m=n<;>simp[h]]; exact hp)
theorem Iw (h1:Has ms G i x (pI m)) (h2:Has ms G i y (pI n)) (hp:Post G i (pI (m+n))) (hr:-9223372036854775808<=m+n/\m+n<=9223372036854775807:=by omega):OpOk P ops ms c V A G i ⟨some d,.binOp .add t x y u,ty,pos,aI,none⟩:=
 gm h1 h2 (v:=.int .i64 (IntKind.i64.wrap (m+n))) (λ_=>rfl) (by rw[IntWalk.i64_in _ hr]; exact hp)
theorem IJ (h1:Has ms G i x (pI m)) (h2:Has ms G i y (pI n)) (hp:Post G i (pI (m-n))) (hr:-9223372036854775808<=m-n/\m-n<=9223372036854775807:=by omega):OpOk P ops ms c V A G i ⟨some d,.binOp .sub t x y u,ty,pos,aI,none⟩:=
 gm h1 h2 (v:=.int .i64 (IntKind.i64.wrap (m-n))) (λ_=>rfl) (by rw[IntWalk.i64_in _ hr]; exact hp)
theorem IF (h1:Has ms G i x (pI m)) (h2:Has ms G i y (pI n)) (hp:Post G i (pI (m*n))) (hr:-9223372036854775808<=m*n/\m*n<=9223372036854775807:=by omega):OpOk P ops ms c V A G i ⟨some d,.binOp .mul t x y u,ty,pos,aI,none⟩:=
 gm h1 h2 (v:=.int .i64 (IntKind.i64.wrap (m*n))) (λ_=>rfl) (by rw[IntWalk.i64_in _ hr]; exact hp)
variable {T:TypeId} {s:Nat} {v:Vr} {p:Pred}
theorem o_load (hv:KA ms i s V=some v) (bD:v.kd=.ptr) (hst:(v.st.all λq=>(ms.getD i 0).testBit q.1||(ms.getD q.1 0).testBit i)=true)
  (hc:cont (λj=>(ms.getD i 0).testBit j) v.c0 v.st=pv p) (hp:Post G i p) (ht:Ty P T v.agg v.n):OpOk P ops ms c V A G i ⟨some d,.load T (.tmp s),ty,pos,aI,none⟩:=by
 obtain⟨⟨k,hk⟩,h1,h2⟩:=pL hv
 exact Gp k hk h1 h2 bD hst ht hc hp
variable {agg:Bool} {al:Al} {q:Pred}
theorem rf {n:Nat} (ha:G9 ms i s A=some al) (hv:jv al.var V=some v) (ho:aX ms i v=true) (bD:v.kd=.ptr) (hst:(v.st.all λq=>(ms.getD i 0).testBit q.1||(ms.getD q.1 0).testBit i)=true)
  (hc:cont (λj=>(ms.getD i 0).testBit j) v.c0 v.st=pv p) (ht:Ty P T agg n) (hq:∀w cs,cs.length=v.n->p w (aq v.agg cs)->q w (aq agg ((cs.drop al.off).take n))) (hcd:al.cond) (hp:Post G i q) (hlen:decide (al.off+n<=v.n)=true):OpOk P ops ms c V A G i ⟨some d,.load T (.tmp s),ty,pos,aI,none⟩:=by
 obtain⟨⟨k2,hk2⟩,h1,h2⟩:=oZ ha
 obtain⟨⟨k,hk⟩,h3⟩:=cC hv
 exact cU k hk k2 hk2 h1 h3 rfl h2 hcd ho bD hst ht hlen hc hq hp
variable {S f off:Nat}
theorem Aw (ha:Fl i A=some al) (hv:jv al.var V=some v) (ho:aX ms i v=true) (bD:v.kd=.ptr) (hs:v.slot=s)
  (hf:∀b w,(Instr.fieldAt S (.pointer (some ⟨b,0,none⟩)) f).run P w=.ok (.pointer (some ⟨b,off,none⟩)) w) (eB:al.off=off) (hu:(A.filter λq=>q.tag==some i).length=1) (hno:(G.all λe=>e.tag != some i)=true):
  OpOk P ops ms c V A G i ⟨some d,.fieldAddr S (.tmp s) f,ty,pos,aI,none⟩:=by
 obtain⟨⟨k2,hk2⟩,h1⟩:=lQ ha
 obtain⟨⟨k,hk⟩,h3⟩:=cC hv
 exact dn k hk ho bD k2 hk2 h1 h3 eB (.inl ⟨hs.symm,rfl⟩) hu hno hf
variable {ni:Al}
theorem tq (ha:Fl i A=some al) (ha0:G9 ms i s A=some ni) (hv:jv al.var V=some v) (hv0:ni.var=al.var) (ho:aX ms i v=true) (bD:v.kd=.ptr)
  (hf:∀b w,(Instr.fieldAt S (.pointer (some ⟨b,ni.off,none⟩)) f).run P w=.ok (.pointer (some ⟨b,off,none⟩)) w) (eB:al.off=off) (hcd:ni.cond) (hu:(A.filter λq=>q.tag==some i).length=1) (hno:(G.all λe=>e.tag != some i)=true):
  OpOk P ops ms c V A G i ⟨some d,.fieldAddr S (.tmp s) f,ty,pos,aI,none⟩:=by
 obtain⟨⟨k2,hk2⟩,h1⟩:=lQ ha
 obtain⟨⟨k3,hk3⟩,h4,h5⟩:=oZ ha0
 obtain⟨⟨k,hk⟩,h3⟩:=cC hv
 exact dn k hk ho bD k2 hk2 h1 h3 eB (.inr ⟨k3,ni,hk3,h4,hv0.trans h3,rfl,h5,hcd⟩) hu hno hf
theorem Ay (ha:Fl i A=some al) (hv:jv al.var V=some v) (ho:aX ms i v=true) (bD:v.kd=.ptr) (hs:v.slot=s) (Mk:Has ms G i y (pI n))
  (hf:∀b w,(Instr.indexAt S (.pointer (some ⟨b,0,none⟩)) (.int .i64 n)).run P w=.ok (.pointer (some ⟨b,off,none⟩)) w) (eB:al.off=off) (hu:(A.filter λq=>q.tag==some i).length=1) (hno:(G.all λe=>e.tag != some i)=true):
  OpOk P ops ms c V A G i ⟨some d,.indexAddr S (.tmp s) y,ty,pos,aI,none⟩:=by
 obtain⟨⟨k2,hk2⟩,h1⟩:=lQ ha
 obtain⟨⟨k,hk⟩,h3⟩:=cC hv
 exact wN k hk ho bD k2 hk2 h1 h3 eB (.inl ⟨hs.symm,rfl⟩) hu hno Mk hf
theorem tr (ha:Fl i A=some al) (ha0:G9 ms i s A=some ni) (hv:jv al.var V=some v) (hv0:ni.var=al.var) (ho:aX ms i v=true) (bD:v.kd=.ptr) (Mk:Has ms G i y (pI n))
  (hf:∀b w,(Instr.indexAt S (.pointer (some ⟨b,ni.off,none⟩)) (.int .i64 n)).run P w=.ok (.pointer (some ⟨b,off,none⟩)) w) (eB:al.off=off) (hcd:ni.cond) (hu:(A.filter λq=>q.tag==some i).length=1) (hno:(G.all λe=>e.tag != some i)=true):
  OpOk P ops ms c V A G i ⟨some d,.indexAddr S (.tmp s) y,ty,pos,aI,none⟩:=by
 obtain⟨⟨k2,hk2⟩,h1⟩:=lQ ha
 obtain⟨⟨k3,hk3⟩,h4,h5⟩:=oZ ha0
 obtain⟨⟨k,hk⟩,h3⟩:=cC hv
 exact wN k hk ho bD k2 hk2 h1 h3 eB (.inr ⟨k3,ni,hk3,h4,hv0.trans h3,rfl,h5,hcd⟩) hu hno Mk hf
variable {r:List (Nat×Rel)}
theorem kE (hv:KA ms i s V=some v) (bD:v.kd=.ptr) (h:Has ms G i y p) (hm:Kv i v.st=some (pv p,r)) (hr:(r.all λr=>(ms.getD r.1 0).testBit i)=true) (ht:Ty P T v.agg v.n) (hf:Fits v.n v.agg p)
  (kL:(V.all λy=>y.id==v.id||y.st.all λq=>q.1 != i)=true):OpOk P ops ms c V A G i ⟨none,.store T (.tmp s) y,ty,pos,aI,none⟩:=by
 obtain⟨⟨k,hk⟩,h1,h2⟩:=pL hv
 obtain⟨m,h3,h4⟩:=pH hm
 exact mF k hk h1 h2 bD m h3 (by rw[h4]; exact hr) kL ht h hf
theorem tu {n:Nat} {q0:Pred} (ha:G9 ms i s A=some al) (hv:jv al.var V=some v) (ho:aX ms i v=true) (bD:v.kd=.ptr) (hst:(v.st.all λq=>q.1==i||((ms.getD i 0).testBit q.1||(ms.getD q.1 0).testBit i))=true)
  (hc:cont (λj=>(ms.getD i 0).testBit j) v.c0 v.st=pv q0) (h:Has ms G i y p) (ht:Ty P T agg n) (hq:∀w cs ds,cs.length=v.n->ds.length=n->q0 w (aq v.agg cs)->p w (aq agg ds)->q w (aq v.agg (cs.take al.off++ds++cs.drop (al.off+n))))
  (hm:Kv i v.st=some (pv q,r)) (hr:(r.all λr=>(ms.getD r.1 0).testBit i)=true) (hcd:al.cond) (hf:Fits n agg p) (hlen:decide (al.off+n<=v.n)=true)
  (kL:(V.all λy=>y.id==v.id||y.st.all λq=>q.1 != i)=true):OpOk P ops ms c V A G i ⟨none,.store T (.tmp s) y,ty,pos,aI,none⟩:=by
 obtain⟨⟨k2,hk2⟩,h1,h2⟩:=oZ ha
 obtain⟨⟨k,hk⟩,h3⟩:=cC hv
 obtain⟨m,h5,h6⟩:=pH hm
 exact yR k hk k2 hk2 h1 h3 rfl h2 hcd ho bD hst m h5 (by rw[h6]; exact hr) kL ht hlen hc h hf hq
theorem Gl (l:List Zl) (hv:AY i V=some v) (hT:v.T=T) (bD:v.kd=.ptr) (hc:v.c0=pv (pS (l.map Zl.fd))) (Br:v.agg=true)
  (hz:∀w,(zeroValue T).run P w=.ok (.agg (l.flatMap Zl.cs).toArray) w) (hl:(l.flatMap Zl.cs).length=v.n) (hst:((v.st.all λq=>(ms.getD q.1 0).testBit i)&&V.all λy=>y.dead != some i)=true) (hno:(G.all λe=>e.tag != some i)=true) (eB:(A.all λp=>p.var != v.id||p.tag.any λj=>(ms.getD j 0).testBit i)=true):
  OpOk P ops ms c V A G i ⟨some d,.alloc T,ty,pos,aI,none⟩:=by
 obtain⟨⟨k,hk⟩,hb⟩:=gP hv
 exact jT k hk hb hst hno eB hT bD hz rfl hl (zw l) hc λw=>by rw[Br]; exact zu l w
theorem DN (l:Zl) {z:Value} (hl:l.cs=[z]) (hv:AY i V=some v) (hT:v.T=T) (bD:v.kd=.ptr) (hc:v.c0=pv l.fd.p) (Br:v.agg=false) (hn:v.n=1)
  (hz:∀w,(zeroValue T).run P w=.ok z w) (yz:z.cells=[z].toArray) (hp:∀w,l.fd.p w z) (hst:((v.st.all λq=>(ms.getD q.1 0).testBit i)&&V.all λy=>y.dead != some i)=true) (hno:(G.all λe=>e.tag != some i)=true) (eB:(A.all λp=>p.var != v.id||p.tag.any λj=>(ms.getD j 0).testBit i)=true):
  OpOk P ops ms c V A G i ⟨some d,.alloc T,ty,pos,aI,none⟩:=by
 obtain⟨⟨k,hk⟩,hb⟩:=gP hv
 exact jT k hk hb hst hno eB hT bD hz yz hn.symm (λu hu=>zw [l] u (by simpa [hl] using hu)) hc λw=>by rw[Br]; exact hp w
theorem MU (hv:AY i V=some v) (hT:v.T=T) (bD:v.kd=.ptr) (h:Has ms G i x p) (hc:v.c0=pv p) (hf:Fits v.n v.agg p) (hst:((v.st.all λq=>(ms.getD q.1 0).testBit i)&&V.all λy=>y.dead != some i)=true) (hno:(G.all λe=>e.tag != some i)=true) (eB:(A.all λp=>p.var != v.id||p.tag.any λj=>(ms.getD j 0).testBit i)=true):
  OpOk P ops ms c V A G i ⟨some d,.box T x,ty,pos,aI,none⟩:=by
 obtain⟨⟨k,hk⟩,hb⟩:=gP hv
 exact yP k hk hb hst hno eB hT bD h hf hc
variable {j:Nat} {b cb:Bool}
theorem Qd {op:Op} {dst:Option Nat} (hg:js j G=some (pB cb)) (h:cb=b->OpOk P ops ms c V A G i ⟨dst,op,ty,pos,aI,none⟩) (hA:¬cb=b->si A i) (hp:¬cb=b->Post G i (bg undef))
  (hj:(G.all λe=>e.tag != some j||((ms.getD i 0).testBit j&&gJ ms i e.till))=true) (hb:(V.all λx=>(x.born != some i&&x.dead != some i)&&x.st.all λq=>q.1 != i)=true):OpOk P ops ms c V A G i ⟨dst,op,ty,pos,aI,some (j,b)⟩:=by
 obtain⟨s,f,k,hk⟩:=post hg
 have:=List.all_eq_true.1 hj _ (List.mem_of_getElem? hk)
 exact MX k hk (by simpa using this) h hb hA hp
theorem MV {φ:Prop} [Decidable φ] {op:Op} {dst:Option Nat} (hg:js j G=some (nK φ (pB cb))) (h:φ/\cb=b->OpOk P ops ms c V A G i ⟨dst,op,ty,pos,aI,none⟩) (hA:¬(φ/\cb=b)->si A i) (hp:¬(φ/\cb=b)->Post G i (bg undef))
  (hj:(G.all λe=>e.tag != some j||((ms.getD i 0).testBit j&&gJ ms i e.till))=true) (hb:(V.all λx=>(x.born != some i&&x.dead != some i)&&x.st.all λq=>q.1 != i)=true):OpOk P ops ms c V A G i ⟨dst,op,ty,pos,aI,some (j,b)⟩:=by
 obtain⟨s,f,k,hk⟩:=post hg
 have:=List.all_eq_true.1 hj _ (List.mem_of_getElem? hk)
 exact J2 k hk (by simpa using this) h hb hA hp
end
end Wx
