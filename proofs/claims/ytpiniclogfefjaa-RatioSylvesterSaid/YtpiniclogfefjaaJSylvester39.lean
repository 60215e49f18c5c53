import Derived.Test.YtpiniclogfefjaaJSylvester38
namespace Wx
open Go Go.RowKit

def RowL.hs (s:Nat) (r:RowL):Value:=.slice (some ⟨r.b,s*3,none⟩) (r.n-s) (r.cap-s)
def Y3 (s:Nat) (R:List RowL):List It:=R.map fun r=>Z2 (r.hs s)
theorem Zz {s:Nat} {R:List RowL} {i:Nat} {r:RowL} (h:R[i]?=some r):(Y3 s R)[i]?=some (Z2 (r.hs s)):=by
 unfold Y3
 rw[List.getElem?_map,h]
 rfl
theorem topsS_len (s:Nat) (R:List RowL):(Y3 s R).length=R.length:=List.length_map ..
theorem topsS_set (s:Nat) (R:List RowL) (i:Nat) (r:RowL):(Y3 s R).set i (Z2 (r.hs s))=Y3 s (R.set i r):=by
 unfold Y3
 rw[List.map_set]
structure MatS (s g cap:Nat) (R:List RowL) (M:List (List Rat)) (H:List Bk):Prop where
 top:(⟨g,1,false,Y3 s R⟩:Bk)∈H
 rows:∀(i:Nat) (r:RowL),R[i]?=some r→(⟨r.b,3,true,Qw (M.getD i []) r.cap⟩:Bk)∈H
 len:R.length=M.length
 fit:∀(i:Nat) (r:RowL),R[i]?=some r→r.n=(M.getD i []).length∧r.n≤r.cap∧r.cap≤maxLen
 apart:∀(i j:Nat) (r q:RowL),R[i]?=some r→R[j]?=some q→i≠j→r.b≠q.b
 off:∀r:RowL,r∈R→r.b≠g
 size:R.length≤cap∧cap≤maxLen
theorem MatOk.matS {g cap:Nat} {R:List RowL} {M:List (List Rat)} {H:List Bk} (h:MatOk g cap R M H):MatS 0 g cap R M H:=⟨h.top,h.rows,h.len,h.fit,h.apart,h.off,h.size⟩
section
variable {s g cap:Nat} {R:List RowL} {M:List (List Rat)} {H:List Bk}
theorem MatS.get (h:MatS s g cap R M H) {i:Nat} (hi:i<M.length):∃r,R[i]?=some r:=⟨R[i]'(by rw[h.len]; exact hi),List.getElem?_eq_getElem _⟩
theorem MatS.swap (h:MatS s g cap R M H) {a b:Nat} (ha:a<M.length) (hb:b<M.length):MatS s g cap (Yt R a b) (Yt M a b) (Y0 H g (Y3 s (Yt R a b))):=by
 -- the same matrix with headers from 0 on
 have h0:MatOk g cap R M (Y0 H g (Y7 R)):=⟨U7 h.top rfl,fun i r hr=>K7 (h.rows i r hr) (h.off r (List.mem_of_getElem? hr)),h.len,h.fit,h.apart,h.off,h.size⟩
 have h1:=h0.swap ha hb
 rw[hup_hup]at h1
 have h2:∀i r,(Yt R a b)[i]?=some r→(⟨r.b,3,true,Qw ((Yt M a b).getD i []) r.cap⟩:Bk)∈Y0 H g (Y3 s (Yt R a b)):=fun i r hr=>by
  have k1:=h1.rows i r hr
  have k2:=h1.off r (List.mem_of_getElem? hr)
  obtain⟨e,he,k3⟩:=List.mem_map.1 k1
  by_cases hb:e.b=g
  ·rw[if_pos hb]at k3
   have:e.b=r.b:=congrArg Bk.b k3
   exact absurd (this.symm.trans hb) k2
  ·rw[if_neg hb]at k3
   rw[← k3]
   exact K7 he hb
 exact⟨U7 h.top rfl,h2,h1.len,h1.fit,h1.apart,h1.off,h1.size⟩
theorem MatS.setRow (h:MatS s g cap R M H) {a:Nat} {x:RowL} (hx:R[a]?=some x) {l:List Rat} (hl:l.length=(M.getD a []).length):MatS s g cap R (M.set a l) (Y0 H x.b (Qw l x.cap)):=by
 have hn:g≠x.b:=Ne.symm (h.off x (List.mem_of_getElem? hx))
 have h0:MatOk g cap R M (Y0 H g (Y7 R)):=⟨U7 h.top rfl,fun i r hr=>K7 (h.rows i r hr) (h.off r (List.mem_of_getElem? hr)),h.len,h.fit,h.apart,h.off,h.size⟩
 have h1:=h0.setRow hx hl
 have h2:∀i r,R[i]?=some r→(⟨r.b,3,true,Qw ((M.set a l).getD i []) r.cap⟩:Bk)∈Y0 H x.b (Qw l x.cap):=fun i r hr=>by
  have k1:=h1.rows i r hr
  have k2:=h1.off r (List.mem_of_getElem? hr)
  obtain⟨e,he,k3⟩:=List.mem_map.1 k1
  obtain⟨e',he',k4⟩:=List.mem_map.1 he
  by_cases hg:e'.b=g
  ·rw[if_pos hg]at k4
   have e1:e.b=g:=by rw[← k4]; exact hg
   rw[if_neg (by rw[e1]; exact hn)]at k3
   have:e.b=r.b:=congrArg Bk.b k3
   exact absurd (this.symm.trans e1) k2
  ·rw[if_neg hg]at k4
   subst k4
   exact List.mem_map.2 ⟨e',he',k3⟩
 exact⟨K7 h.top hn,h2,h1.len,h1.fit,h1.apart,h1.off,h1.size⟩
end
theorem heap_swapS {H:List Bk} {s g a b:Nat} {R:List RowL} {x y:RowL} (hu:∀e,e∈H→e.b=g→e.items=Y3 s R) (hx:R[a]?=some x) (hy:R[b]?=some y):Xs (Xs H g a (Z2 (y.hs s))) g b (Z2 (x.hs s))=Y0 H g (Y3 s (Yt R a b)):=by
 have e:Y0 H g (Y3 s R)=H:=Kw hu
 rw[Qdo hx hy,← topsS_set,← topsS_set,← Kv,← Kv,e]
end Wx

namespace Wx
open Go Go.RowKit

structure HI where
 k:Nat
 H:List Bk
structure LeadL where
 b:Bool
 R:List RowL
 X:List (List Rat)
 H:List Bk
structure LeadC (s g cap α δ:Nat) (X:List (List Rat)) (l:LeadL):Prop where
 mat:MatS s g cap l.R l.X l.H
 len:l.X.length=X.length
 rect:Rect (s+X.length) l.X
 com:ComM α δ X.length (Xc s l.X)
 yes:l.b=true→Xc s l.X 0 0≠0∧Sym X.length (Xc s l.X)∧∀p q z,InR X.length (Xc s l.X) p q z→InR X.length (Xc s X) p q z
 no:l.b=false→∀r c,r<X.length→c<X.length→Xc s X r c=0
section
variable {s g cap α δ i j:Nat} {X:List (List Rat)} {R:List RowL} {H:List Bk}
theorem LeadC.mono {l:LeadL} (h:LeadC s g cap α δ X l) {α':Nat} (ha:α≤α'):LeadC s g cap α' δ X l:=⟨h.mat,h.len,h.rect,h.com.mono ha,h.yes,h.no⟩
theorem leadA_len:(leadA s i X).length=X.length:=by unfold leadA; rw[Zp,Wa]
theorem leadB_len:(Uu s i j X).length=X.length:=by unfold Uu; rw[Zp,Qav]
theorem leadA_rect (hr:Rect (s+X.length) X) (hi:i<X.length):Rect (s+X.length) (leadA s i X):=Qdk (fun r h=>by rw[swpRow_len]; exact h) (swapL_rect hr (by omega) hi)
theorem leadB_rect (hr:Rect (s+X.length) X):Rect (s+X.length) (Uu s i j X):=Qdk (fun r h=>by rw[addRow_len]; exact h) (Qc7 hr)
theorem leadA_C (hr:Rect (s+X.length) X) (hc:ComM α δ X.length (Xc s X)) (hs:Sym X.length (Xc s X)) (hi:i<X.length) (h0:Xc s X i i≠0) (hM:MatS s g cap R (leadA s i X) H):LeadC s g cap α δ X ⟨true,R,leadA s i X,H⟩:=by
 have e:=leadA_sub hr hi
 refine⟨hM,leadA_len,leadA_rect hr hi,(hc.swp hi).congr e,fun _=>⟨?_,?_,fun p q z h=>.swp i hi (.congr (fun r c h1 h2=>(e r c h1 h2).symm) h)⟩,fun h=>by cases h⟩
 ·show Xc s (leadA s i X) 0 0≠0
  rw[e 0 0 (by omega) (by omega)]
  exact h0
 ·exact(hs.swp hi).congr fun r c h1 h2=>(e r c h1 h2).symm
theorem leadB_diag (hr:Rect (s+X.length) X) (hs:Sym X.length (Xc s X)) (hi:i<X.length) (hj:j<X.length) (hd:∀q,q<X.length→Xc s X q q=0) (h:Xc s X i j≠0):Xc s (Uu s i j X) i i≠0:=by
 rw[Qb6 hr hi hj i i hi hi]
 unfold Wz
 rw[if_pos rfl,if_pos rfl,if_pos rfl,hd i hi,hd j hj,hs j i hj hi]
 grind
theorem leadB_sym (hr:Rect (s+X.length) X) (hs:Sym X.length (Xc s X)) (hi:i<X.length) (hj:j<X.length):Sym X.length (Xc s (Uu s i j X)):=(hs.ad hi hj).congr fun r c h1 h2=>(Qb6 hr hi hj r c h1 h2).symm
theorem leadB_C {l:LeadL} (hr:Rect (s+X.length) X) (hs:Sym X.length (Xc s X)) (hi:i<X.length) (hj:j<X.length) (hd:∀q,q<X.length→Xc s X q q=0) (h:Xc s X i j≠0) (hl:LeadC s g cap α δ (Uu s i j X) l):LeadC s g cap α δ X l:=by
 have hn:(Uu s i j X).length=X.length:=leadB_len
 have h1:=hl.len
 have h2:=hl.rect
 have h3:=hl.com
 have h4:=hl.yes
 have h5:=hl.no
 rw[hn]at h1 h2 h3 h4 h5
 have hne:i≠j:=fun e=>h (by subst e; exact hd i hi)
 refine⟨hl.mat,h1,h2,h3,fun hb=>?_,fun hb=>absurd (h5 hb i i hi hi) (leadB_diag hr hs hi hj hd h)⟩
 obtain⟨k1,k2,k3⟩:=h4 hb
 exact⟨k1,k2,fun p q z k=>.ad i j hi hj hne (.congr (fun r c h1 h2=>(Qb6 hr hi hj r c h1 h2).symm) (k3 p q z k))⟩
theorem lead_none (hr:Rect (s+X.length) X) (hc:ComM α δ X.length (Xc s X)) (hs:Sym X.length (Xc s X)) (hM:MatS s g cap R X H) (hd:∀q,q<X.length→Xc s X q q=0) (hz:∀a,a<X.length→∀b,b<a→Xc s X a b=0):LeadC s g cap α δ X ⟨false,R,X,H⟩:=by
 refine⟨hM,rfl,hr,hc,(fun h=>by cases h),fun _ r c h1 h2=>?_⟩
 rcases Nat.lt_or_ge c r with h|h
 ·exact hz r h1 c h
 ·by_cases e:r=c
  ·subst e; exact hd r h1
  ·rw[hs r c h1 h2]
   exact hz c h2 r (by omega)
theorem hset_swp {b p a c:Nat} {L:List Rat} (hu:∀e,e∈H→e.b=b→e.items=Qw L p) (ha:a<L.length) (hc:c<L.length):Xs (Xs H b a (Zl (L.getD c 0))) b c (Zl (L.getD a 0))=Y0 H b (Qw (Vi a c L) p):=by
 have e:Y0 H b (Qw L p)=H:=Kw hu
 have:Xs (Xs (Y0 H b (Qw L p)) b a (Zl (L.getD c 0))) b c (Zl (L.getD a 0))=Y0 H b (Qw (Vi a c L) p):=by
  rw[Kv,Kv,Ve ha,Ve (by rw[List.length_set]; exact hc)]
  rfl
 rw[e]at this
 exact this
theorem hset_add {b p a c:Nat} {L:List Rat} (hu:∀e,e∈H→e.b=b→e.items=Qw L p) (ha:a<L.length):Xs H b a (Zl (L.getD a 0+L.getD c 0))=Y0 H b (Qw (Vs a c L) p):=by
 have e:Y0 H b (Qw L p)=H:=Kw hu
 have:Xs (Y0 H b (Qw L p)) b a (Zl (L.getD a 0+L.getD c 0))=Y0 H b (Qw (Vs a c L) p):=by
  rw[Kv,Ve ha]
  rfl
 rw[e]at this
 exact this
theorem hset_red {b p k:Nat} {L1 L2:List Rat} (hu:∀e,e∈H→e.b=b→e.items=Qw (Xz L1 s L2 s (-1) k) p) (hk:s+k<L1.length):Xs H b (s+k) (Zl (L1.getD (s+k) 0+L2.getD (s+k) 0))=Y0 H b (Qw (Xz L1 s L2 s (-1) (k+1)) p):=by
 have e:Y0 H b (Qw (Xz L1 s L2 s (-1) k) p)=H:=Kw hu
 have:Xs (Y0 H b (Qw (Xz L1 s L2 s (-1) k) p)) b (s+k) (Zl (L1.getD (s+k) 0+L2.getD (s+k) 0))=Y0 H b (Qw (Xz L1 s L2 s (-1) (k+1)) p):=by
  rw[Kv,Ve (by rw[J1]; exact hk),← redAt_step hk]
  congr 3
  grind
 rw[e]at this
 exact this
theorem set_getD {α:Type} {X:List α} {i:Nat} {d:α} (hi:i<X.length):X.set i (X.getD i d)=X:=Z9 (d:=d) (List.length_set ..) fun q hq=>by
 rw[Zk hi]
 split
 ·rename_i h; rw[h]
 ·rfl
structure RestL where
 A:Option Addr
 g:Nat
 cap:Nat
 R:List RowL
 X:List (List Rat)
 H:List Bk
structure RestC (s n α δ:Nat) (X:List (List Rat)) (l:RestL):Prop where
 len:l.X.length=n
 rect:Rect (s+1+n) l.X
 com:ComM (2*α+1) (δ+α) n (Xc (s+1) l.X)
 sub:∀r c,r<n→c<n→Xc (s+1) l.X r c=Z3 (Xc s X) r c
 mat:0<n→l.A=some ⟨l.g,0,none⟩∧MatS (s+1) l.g l.cap l.R l.X l.H
theorem Qed:(Wk s X).length=X.length:=Zp
theorem rest_C {n:Nat} (hn:X.length=n+1) (hr:Rect (s+X.length) X) (hc:ComM α δ X.length (Xc s X)) (h0:Xc s X 0 0≠0) (hM:MatS s g cap R (Wk s X) H):
  (n=0→∀A cap',∃l:RestL,RestC s n α δ X l∧Value.slice l.A n l.cap=.slice A 0 cap'∧l.H=H)∧(0<n→∀b cap',n≤cap'→cap'≤maxLen→(∀e,e∈H→e.b≠b)→∃l:RestL,RestC s n α δ X l∧Value.slice l.A n l.cap=.slice (some ⟨b,0,none⟩) n cap'∧l.H=⟨b,1,false,(List.range n).map fun i=>Z2 ((Q0 R (i+1)).hs (s+1))⟩::H):=by
 have hlen:(Wk s X).tail.length=n:=by rw[List.length_tail,Qed]; omega
 have hget:∀r,(Wk s X).tail.getD r []=(Wk s X).getD (r+1) []:=fun r=>by rw[Q8,Q8,List.getElem?_tail]
 have hrR:Rect (s+X.length) (Wk s X):=Qdk (fun r h=>by rw[restF_len]; exact h) hr
 have hrect:Rect (s+1+n) (Wk s X).tail:=fun i hi=>by
  rw[hget,hrR (i+1) (by rw[Qed]; omega)]
  omega
 have hsub:∀r c,r<n→c<n→Xc (s+1) (Wk s X).tail r c=Z3 (Xc s X) r c:=fun r c h1 h2=>rest_sub hr (by omega) (by omega)
 have hcom:ComM (2*α+1) (δ+α) n (Xc (s+1) (Wk s X).tail):=by
  rw[hn]at hc
  exact(hc.sch h0).congr hsub
 refine⟨fun hz A cap'=>⟨⟨A,0,cap',R,(Wk s X).tail,H⟩,⟨hlen,hrect,hcom,hsub,fun h=>by omega⟩,by rw[hz],rfl⟩,fun hp b cap' h1 h2 h3=>⟨⟨some ⟨b,0,none⟩,b,cap',R.tail,(Wk s X).tail,_⟩,⟨hlen,hrect,hcom,hsub,fun _=>⟨rfl,?_⟩⟩,rfl,rfl⟩⟩
 have hRl:R.length=n+1:=by rw[hM.len,Qed,hn]
 have hRt:∀i,R.tail[i]?=R[i+1]?:=fun i=>List.getElem?_tail ..
 refine⟨?_,fun i r hr=>?_,by rw[List.length_tail,hlen]; omega,fun i r hr=>?_,fun i j r q hr hq hne=>?_,fun r hr=>?_,by rw[List.length_tail,hRl]; exact⟨h1,h2⟩⟩
 ·have:Y3 (s+1) R.tail=(List.range n).map fun i=>Z2 ((Q0 R (i+1)).hs (s+1)):=by
   unfold Y3
   apply List.ext_getElem?
   intro i
   rw[List.getElem?_map,List.getElem?_map,hRt]
   rcases Nat.lt_or_ge i n with hi|hi
   ·rw[List.getElem?_range hi,Kc (by omega)]
    rfl
   ·rw[List.getElem?_eq_none (by omega),List.getElem?_eq_none (by rw[List.length_range]; exact hi)]
    rfl
  rw[this]
  exact List.mem_cons_self ..
 ·rw[hRt]at hr
  rw[hget]
  exact List.mem_cons_of_mem _ (hM.rows _ _ hr)
 ·rw[hRt]at hr
  rw[hget]
  exact hM.fit _ _ hr
 ·rw[hRt]at hr hq
  exact hM.apart _ _ _ _ hr hq (by omega)
 ·obtain⟨i,hi⟩:=List.mem_iff_getElem?.1 hr
  rw[hRt]at hi
  exact h3 _ (hM.rows _ _ hi)
end
end Wx

namespace Wx
open Go Go.RowKit

structure InL where
 t:Nat
 pc:Nat
 nc:Nat
 A:Option Addr
 g:Nat
 cap:Nat
 R:List RowL
 X:List (List Rat)
 H:List Bk
structure InC (A:List (List Rat)) (α δ:Nat) (q:InL):Prop where
 t:q.t≤A.length
 cnt:q.pc+q.nc=q.t
 len:q.X.length=A.length-q.t
 rect:Rect (q.t+q.X.length) q.X
 com:ComM (cA α q.t) (cD α δ q.t) q.X.length (Xc q.t q.X)
 sym:Sym q.X.length (Xc q.t q.X)
 inr:∀p m z,InR (A.length-q.t) (Xc q.t q.X) p m z→InR A.length (ent A) (q.pc+p) (q.nc+m) z
 mat:0<A.length-q.t→q.A=some ⟨q.g,0,none⟩∧MatS q.t q.g q.cap q.R q.X q.H
section
variable {A:List (List Rat)} {α δ:Nat} {q:InL}
theorem in_start {l:MatL} (hA:Rect A.length A) (hs:Sym A.length (ent A)) (hc:ComM α δ A.length (ent A)) (hM:MatOk l.g l.cap l.R A l.H):InC A α δ ⟨0,0,0,some ⟨l.g,0,none⟩,l.g,l.cap,l.R,A,l.H⟩:=by
 have e:Xc 0 A=ent A:=by
  funext r c
  unfold Xc ent
  rw[Nat.zero_add]
 refine⟨Nat.zero_le _,rfl,rfl,by show Rect (0+A.length) A; rw[Nat.zero_add]; exact hA,by show ComM α δ A.length (Xc 0 A); rw[e]; exact hc,by show Sym A.length (Xc 0 A); rw[e]; exact hs,fun p m z h=>?_,fun _=>⟨rfl,hM.matS⟩⟩
 have h:InR A.length (Xc 0 A) p m z:=h
 rw[e]at h
 rw[Nat.zero_add,Nat.zero_add]
 exact h
theorem in_none {l:LeadL} {α' δ':Nat} (hq:InC A α δ q) (hs:Sym A.length (ent A)) (hl:LeadC q.t q.g q.cap α' δ' q.X l) (hb:l.b=false):inr A.length (ent A)=(q.pc,q.nc,A.length-q.t):=by
 refine inr_eq hs ?_
 have h:=hq.inr 0 0 (A.length-q.t) (.zero fun r c hr hc=>hl.no hb r c (by rw[hq.len]; exact hr) (by rw[hq.len]; exact hc))
 exact h
theorem in_end (hq:InC A α δ q) (hs:Sym A.length (ent A)) (ht:A.length-q.t=0):inr A.length (ent A)=(q.pc,q.nc,0):=by
 refine inr_eq hs ?_
 have h:=hq.inr 0 0 0
 rw[ht]at h
 exact h (.zero fun r c hr _=>absurd hr (Nat.not_lt_zero _))
theorem in_step {l:LeadL} {l2:RestL} {m:Nat} (hq:InC A α δ q) (hl:LeadC q.t q.g q.cap (cA α q.t+2) (cD α δ q.t) q.X l) (hb:l.b=true) (hm:q.X.length=m+1) (h2:RestC q.t m (cA α q.t+2) (cD α δ q.t) l.X l2):
  (0<(l.X.getD 0 []).getD q.t 0→InC A α δ ⟨q.t+1,q.pc+1,q.nc,l2.A,l2.g,l2.cap,l2.R,l2.X,l2.H⟩)∧((l.X.getD 0 []).getD q.t 0<0→InC A α δ ⟨q.t+1,q.pc,q.nc+1,l2.A,l2.g,l2.cap,l2.R,l2.X,l2.H⟩):=by
 have hlen:=hq.len
 have ht:=hq.t
 have hcn:=hq.cnt
 have e1:A.length-(q.t+1)=m:=by omega
 obtain⟨k1,k2,k3⟩:=hl.yes hb
 rw[hm]at k2 k3
 have hsym:Sym m (Xc (q.t+1) l2.X):=k2.sch.congr fun r c hr hc=>(h2.sub r c hr hc).symm
 have key:∀p m' z,InR m (Xc (q.t+1) l2.X) p m' z→(0<(l.X.getD 0 []).getD q.t 0→InR (m+1) (Xc q.t q.X) (p+1) m' z)∧((l.X.getD 0 []).getD q.t 0<0→InR (m+1) (Xc q.t q.X) p (m'+1) z):=fun p m' z h=>by
  have h:InR m (Z3 (Xc q.t l.X)) p m' z:=.congr (fun r c hr hc=>(h2.sub r c hr hc).symm) h
  have e:Xc q.t l.X 0 0=(l.X.getD 0 []).getD q.t 0:=rfl
  exact⟨fun hp=>k3 _ _ _ (.pos (by rw[e]; exact hp) h),fun hp=>k3 _ _ _ (.neg (by rw[e]; exact hp) h)⟩
 have hmt:A.length-q.t=m+1:=by omega
 have inq:=hq.inr
 rw[hmt]at inq
 refine⟨fun hp=>⟨by show q.t+1≤A.length; omega,by show q.pc+1+q.nc=q.t+1; omega,by show l2.X.length=A.length-(q.t+1); rw[h2.len,e1],by show Rect (q.t+1+l2.X.length) l2.X; rw[h2.len]; exact h2.rect,by show ComM _ _ l2.X.length _; rw[h2.len]; exact h2.com,by show Sym l2.X.length _; rw[h2.len]; exact hsym,fun p m' z h=>?_,fun h=>h2.mat (by rw[← e1]; exact h)⟩,
  fun hp=>⟨by show q.t+1≤A.length; omega,by show q.pc+(q.nc+1)=q.t+1; omega,by show l2.X.length=A.length-(q.t+1); rw[h2.len,e1],by show Rect (q.t+1+l2.X.length) l2.X; rw[h2.len]; exact h2.rect,by show ComM _ _ l2.X.length _; rw[h2.len]; exact h2.com,by show Sym l2.X.length _; rw[h2.len]; exact hsym,fun p m' z h=>?_,fun h=>h2.mat (by rw[← e1]; exact h)⟩⟩
 ·have h:InR (A.length-(q.t+1)) (Xc (q.t+1) l2.X) p m' z:=h
  rw[e1]at h
  have:=inq _ _ _ ((key p m' z h).1 hp)
  show InR A.length (ent A) (q.pc+1+p) (q.nc+m') z
  rw[show q.pc+1+p=q.pc+(p+1) by omega]
  exact this
 ·have h:InR (A.length-(q.t+1)) (Xc (q.t+1) l2.X) p m' z:=h
  rw[e1]at h
  have:=inq _ _ _ ((key p m' z h).2 hp)
  show InR A.length (ent A) (q.pc+p) (q.nc+1+m') z
  rw[show q.nc+1+m'=q.nc+(m'+1) by omega]
  exact this
end
theorem sgn_pos {x:Rat} (h:decide (Yj x>0)=true):0<x:=by
 have h:=of_decide_eq_true h
 rw[sgnI_eq]at h
 rcases tri x 0 with h'|h'|h'
 ·rw[cmpT_lt h']at h; omega
 ·rw[cmpT_eq h']at h; omega
 ·exact h'
theorem sgn_neg {x:Rat} (h:decide (Yj x>0)=false) (h0:x≠0):x<0:=by
 have h:=of_decide_eq_false h
 rw[sgnI_eq]at h
 rcases tri x 0 with h'|h'|h'
 ·exact h'
 ·exact absurd h' h0
 ·rw[cmpT_gt h']at h; omega
end Wx

namespace Wx
open Go Go.RowKit

def X4 (n:Nat) (f:Nat→Nat→Rat):List (List Rat):=(List.range n).map fun r=>(List.range n).map (f r)
section
variable {n i k:Nat} {f g:Nat→Nat→Rat}
theorem Zg:(X4 n f).length=n:=by unfold X4; rw[List.length_map,List.length_range]
theorem W8 (hi:i<n):(X4 n f).getD i []=(List.range n).map (f i):=X0 (g:=fun r=>(List.range n).map (f r)) hi
theorem Qb8 (hi:i<n) (hk:k<n):((X4 n f).getD i []).getD k 0=f i k:=by rw[W8 hi,X0 hk]
theorem Wg:Rect n (X4 n f):=fun i hi=>by
 rw[Zg]at hi
 rw[W8 hi,List.length_map,List.length_range]
theorem Wq (h:∀r c,r<n→c<n→f r c=g r c):X4 n f=X4 n g:=
 List.map_congr_left fun r hr=>List.map_congr_left fun c hc=>h r c (List.mem_range.1 hr) (List.mem_range.1 hc)
theorem matFn_set (hi:i<n) (hk:k<n) {v:Rat}:(X4 n f).set i (((X4 n f).getD i []).set k v)=X4 n (fun r c=>if r=i∧c=k then v else f r c):=by
 refine Z9 (d:=[]) (by rw[List.length_set,Zg,Zg]) fun r hr=>?_
 rw[List.length_set,Zg]at hr
 rw[Zk (by rw[Zg]; exact hi),W8 hr,W8 hr,W8 hi]
 by_cases h:r=i
 ·rw[if_pos h,h]
  refine Z9 (d:=0) (by rw[List.length_set,List.length_map,List.length_map]) fun c hc=>?_
  rw[List.length_set,List.length_map,List.length_range]at hc
  rw[Zk (by rw[List.length_map,List.length_range]; exact hk),X0 hc,X0 hc]
  by_cases h2:c=k
  ·rw[if_pos h2,if_pos ⟨rfl,h2⟩]
  ·rw[if_neg h2,if_neg fun h=>h2 h.2]
 ·rw[if_neg h]
  exact List.map_congr_left fun c _=>(if_neg fun h'=>h h'.1).symm
end
theorem Ud {n r c:Nat} {f:Nat→Nat→Rat} (hr:r<n) (hc:c<n):ent (X4 n f) r c=f r c:=Qb8 hr hc
def Jt (L:List Int) (n r c:Nat):Rat:=Kj L n 0 (min r c) (max r c)
def mS (L:List Int) (n i k r c:Nat):Rat:=if r<i∨r=i∧c<k then Jt L n r c else Kj L n 0 r c
def tS (L:List Int) (n i k r c:Nat):Rat:=if r<i∨r=i∧c<k then -(Jt L n r c)else Kj L n 0 r c
section
variable {L:List Int} {n i k:Nat}
theorem mS_up:mS L n i k (min i k) (max i k)=Jt L n i k:=by
 have e:Kj L n 0 (min (min i k) (max i k)) (max (min i k) (max i k))=Jt L n i k:=by
  unfold Jt
  rw[show min (min i k) (max i k)=min i k by omega,show max (min i k) (max i k)=max i k by omega]
 unfold mS
 split
 ·exact e
 ·rfl
theorem mS_step:(fun r c=>if r=i∧c=k then Jt L n i k else mS L n i k r c)=mS L n i (k+1):=by
 funext r c
 unfold mS
 by_cases h:r=i∧c=k
 ·rw[if_pos h,if_pos (by omega),h.1,h.2]
 ·rw[if_neg h]
  by_cases h2:r<i∨r=i∧c<k
  ·rw[if_pos h2,if_pos (by omega)]
  ·rw[if_neg h2,if_neg (by omega)]
theorem mS_at:mS L n i (k+1) i k=Jt L n i k:=by unfold mS; rw[if_pos (by omega)]
theorem tS_step:(fun r c=>if r=i∧c=k then -(Jt L n i k)else tS L n i k r c)=tS L n i (k+1):=by
 funext r c
 unfold tS
 by_cases h:r=i∧c=k
 ·rw[if_pos h,if_pos (by omega),h.1,h.2]
 ·rw[if_neg h]
  by_cases h2:r<i∨r=i∧c<k
  ·rw[if_pos h2,if_pos (by omega)]
  ·rw[if_neg h2,if_neg (by omega)]
theorem mS_next:X4 n (mS L n i n)=X4 n (mS L n (i+1) 0):=Wq fun r c hr hc=>by
 unfold mS
 by_cases h:r<i∨r=i∧c<n
 ·rw[if_pos h,if_pos (by omega)]
 ·rw[if_neg h,if_neg (by omega)]
theorem tS_next:X4 n (tS L n i n)=X4 n (tS L n (i+1) 0):=Wq fun r c hr hc=>by
 unfold tS
 by_cases h:r<i∨r=i∧c<n
 ·rw[if_pos h,if_pos (by omega)]
 ·rw[if_neg h,if_neg (by omega)]
theorem mS_zero:X4 n (mS L n 0 0)=Ky L n 0:=Wq (g:=Kj L n 0) fun r c _ _=>by unfold mS; rw[if_neg (by omega)]
theorem tS_zero:X4 n (tS L n 0 0)=Ky L n 0:=Wq (g:=Kj L n 0) fun r c _ _=>by unfold tS; rw[if_neg (by omega)]
theorem mS_end:X4 n (mS L n n 0)=X4 n (Jt L n):=Wq fun r c hr _=>by unfold mS; rw[if_pos (by omega)]
theorem tS_end:X4 n (tS L n n 0)=X4 n (fun r c => -(Jt L n r c)):=Wq fun r c hr _=>by unfold tS; rw[if_pos (by omega)]
end
theorem MatOk.setItem {g cap n i k:Nat} {R:List RowL} {f:Nat→Nat→Rat} {H:List Bk} {r:RowL} {v:Rat} (h:MatOk g cap R (X4 n f) H) (hi:i<n) (hk:k<n) (hr:R[i]?=some r) (hu:∀e x,e∈H→x∈H→e.b=x.b→e.items=x.items):
  MatOk g cap R (X4 n (fun r c=>if r=i∧c=k then v else f r c)) (Xs H r.b k (Zl v)):=by
 have hm:=h.rows _ _ hr
 have h1:=h.setRow hr (l:=((X4 n f).getD i []).set k v) (List.length_set ..)
 rw[matFn_set hi hk]at h1
 have e:Y0 H r.b (Qw ((X4 n f).getD i []) r.cap)=H:=Kw fun e he hb=>hu e _ he hm hb
 have e2:Xs H r.b k (Zl v)=Y0 H r.b (Qw (((X4 n f).getD i []).set k v) r.cap):=by
  have:Xs (Y0 H r.b (Qw ((X4 n f).getD i []) r.cap)) r.b k (Zl v)=Y0 H r.b (Qw (((X4 n f).getD i []).set k v) r.cap):=by
   rw[Kv,Ve (by rw[W8 hi,List.length_map,List.length_range]; exact hk)]
  rw[e]at this
  exact this
 rw[e2]
 exact h1
def Wt (L:List Int) (i q:Nat):Rat:=if q<i∧q<L.length then((L.getD q 0:Int):Rat)else 0
def vecL (L:List Int) (n:Nat):List Rat:=(List.range n).map (Wt L n)
def Xm (L:List Int):Nat→Bool
 |0=>true
 |i+1=>if i<L.length then Xm L i&&(L.getD i 0==0)else Xm L i
theorem nullN_yes {L:List Int} {i:Nat} (h:i<L.length):(Xm L i&&(L.getD i 0==0))=Xm L (i+1):=(if_pos h).symm
theorem nullN_no {L:List Int} {i:Nat} (h:¬i<L.length):Xm L i=Xm L (i+1):=(if_neg h).symm
theorem nullN_vec {L:List Int} {n:Nat}:Xm L n=false→∃q,q<n∧(vecL L n).getD q 0≠0:=by
 have key:∀i,Xm L i=false→∃q,q<i∧q<L.length∧L.getD q 0≠0:=by
  intro i
  induction i with
  |zero=>intro h; cases h
  |succ i ih=>
   intro h
   by_cases hi:i<L.length
   ·rw[← nullN_yes hi]at h
    cases h0:Xm L i with
    |false=>obtain⟨q,h1,h2⟩:=ih h0; exact⟨q,by omega,h2⟩
    |true=>
     rw[h0,Bool.true_and]at h
     exact⟨i,by omega,hi,beq_eq_false_iff_ne.1 h⟩
   ·rw[← nullN_no hi]at h
    obtain⟨q,h1,h2⟩:=ih h
    exact⟨q,by omega,h2⟩
 intro h
 obtain⟨q,h1,h2,h3⟩:=key n h
 refine⟨q,h1,?_⟩
 show((List.range n).map (Wt L n)).getD q 0≠0
 rw[X0 h1]
 unfold Wt
 rw[if_pos ⟨h1,h2⟩]
 exact fun e=>h3 (Rat.intCast_inj.1 (e.trans (show(0:Rat)=((0:Int):Rat)from rfl)))
theorem vec_step {L:List Int} {i:Nat} (h:i<L.length):∀q,(if q=i then((L.getD i 0:Int):Rat)else Wt L i q)=Wt L (i+1) q:=fun q=>by
 unfold Wt
 by_cases hq:q=i
 ·rw[if_pos hq,if_pos (by omega),hq]
 ·rw[if_neg hq]
  by_cases h2:q<i∧q<L.length
  ·rw[if_pos h2,if_pos (by omega)]
  ·rw[if_neg h2,if_neg (by omega)]
theorem vec_skip {L:List Int} {i:Nat} (h:¬i<L.length):∀q,Wt L i q=Wt L (i+1) q:=fun q=>by
 unfold Wt
 by_cases h2:q<i∧q<L.length
 ·rw[if_pos h2,if_pos (by omega)]
 ·rw[if_neg h2,if_neg (by omega)]
theorem com_int {n α b:Nat} {M:Q4} (hb:b<2^α) (h:∀r c,r<n→c<n→∃z:Int,z.natAbs≤b∧M r c=(z:Rat)):ComM α 1 n M:=by
 refine⟨1,by omega,by unfold Bd; omega,fun r c hr hc=>?_⟩
 obtain⟨z,hz,e⟩:=h r c hr hc
 refine⟨z,by unfold Bd; omega,?_⟩
 rw[e]
 show(z:Rat)*1=_
 rw[Rat.mul_one]
theorem sum_int {f g:Nat→Rat} {a b:Nat}:∀{n:Nat},(∀k,k<n→∃z:Int,z.natAbs≤a∧f k=(z:Rat))→(∀k,k<n→∃z:Int,z.natAbs≤b∧g k=(z:Rat))→∃z:Int,z.natAbs≤n*(a*b)∧Qt n (fun k=>f k*g k)=(z:Rat)
 |0,_,_=>⟨0,by simp,rfl⟩
 |n+1,hf,hg=>by
  obtain⟨z,h1,h2⟩:=sum_int (n:=n) (fun k hk=>hf k (by omega)) (fun k hk=>hg k (by omega))
  obtain⟨x,h3,h4⟩:=hf n (by omega)
  obtain⟨y,h5,h6⟩:=hg n (by omega)
  refine⟨z+x*y,?_,?_⟩
  ·have h7:(x*y).natAbs≤a*b:=by rw[Int.natAbs_mul]; exact Nat.mul_le_mul h3 h5
   have:=Int.natAbs_add_le z (x*y)
   rw[Nat.add_mul,Nat.one_mul]
   omega
  ·show Qt n _+f n*g n=_
   rw[h2,h4,h6,Rat.intCast_add,Rat.intCast_mul]
theorem fill_int (L:List Int) (n f r c:Nat):∃z:Int,z.natAbs≤9∧Kj L n f r c=(z:Rat):=⟨fillZ L (f+n*r+c),by have:=Qc3 L (f+n*r+c); omega,rfl⟩
end Wx

namespace Wx
open Go Go.RowKit Go.Proofs
set_option linter.unusedVariables false

theorem c_awake:∀w,Calls Try.prog 6 #[] w (Kx (pB true) w):=fun w=>(awake_num w).mono fun _ _=>ret_is
theorem law_true {f:FuncId} {P:Program} {args:Array Value} {W:World} (h:Calls P f args W (RetB (fun _ _=>False) (pB true) W)):Calls P f args W fun e w'=>e=.returned (.bool true)∧Below W.heap.size W w':=
 h.mono fun e w' h=>by
  obtain⟨v,rfl,hv,hb⟩:=h
  have:v=.bool true:=hv.out
  exact⟨by rw[this],hb⟩
end Wx

namespace Wx
open Go Go.RowKit Go.Proofs

theorem ty_int8:Ty Try.prog 24 false 1:=⟨fun _=>by kernel_rfl,fun _=>by kernel_rfl,by decide⟩
theorem U0:SlTy Try.prog 23 24 1:=⟨by kernel_rfl,fun _=>by kernel_rfl⟩
end Wx

namespace Wx
open Go Go.RowKit Go.Proofs

end Wx
