import Derived.Test.YtpiniclogfefjaaJSylvester36
namespace Wx

theorem sumN_app (n m:Nat) (f:Nat→Rat):Qt (n+m) f=Qt n f+Qt m fun i=>f (n+i):=by
 induction m with
 |zero=>show Qt n f=Qt n f+0; rw[Rat.add_zero]
 |succ m ih=>
  show Qt (n+m) f+f (n+m)=Qt n f+(Qt m (fun i=>f (n+i))+f (n+m))
  rw[ih]
  grind
theorem Qbd {n k:Nat} (hk:k<n) (f:Nat→Rat) (x:Rat):Qt n (fun i=>f i+if i=k then x else 0)=Qt n f+x:=by
 rw[Wl,Vg (p:=k) hk fun i _ h=>if_neg h,if_pos rfl]
def sw (p i:Nat):Nat:=if i=0 then p else if i=p then 0 else i
theorem sw_lt {n p i:Nat} (hp:p<n) (hi:i<n):sw p i<n:=by
 unfold sw
 split
 ·exact hp
 ·split<;>omega
theorem sw_sw (p i:Nat):sw p (sw p i)=i:=by
 unfold sw
 by_cases h:i=0
 ·rw[if_pos h]
  by_cases h2:p=0
  ·rw[if_pos h2,h2,h]
  ·rw[if_neg h2,if_pos rfl,h]
 ·rw[if_neg h]
  by_cases h2:i=p
  ·rw[if_pos h2,if_pos rfl,h2]
  ·rw[if_neg h2,if_neg h,if_neg h2]
theorem sumN_sw {n p:Nat} (hp:p<n) (f:Nat→Rat):Qt n (fun i=>f (sw p i))=Qt n f:=by
 by_cases h0:p=0
 ·subst h0
  refine Qq fun i _=>?_
  unfold sw
  by_cases h:i=0
  ·rw[if_pos h,h]
  ·rw[if_neg h,if_neg h]
 ·obtain⟨m,rfl⟩:∃m,n=m+1:=⟨n-1,by omega⟩
  obtain⟨k,rfl⟩:∃k,m=k+1:=⟨m-1,by omega⟩
  rw[Qdn hp,Qdn hp f,Qcd,Qcd k fun i=>f (Jc p i)]
  have e0:Jc p 0=0:=by unfold Jc; rw[if_pos (by omega)]
  have e1:sw p p=0:=by unfold sw; rw[if_neg h0,if_pos rfl]
  have e2:sw p 0=p:=by unfold sw; rw[if_pos rfl]
  rw[e0,e1,e2,Qq (f:=fun i=>f (sw p (Jc p (i+1)))) (g:=fun i=>f (Jc p (i+1))) fun i _=>?_]
  ·grind
  ·have:sw p (Jc p (i+1))=Jc p (i+1):=by
    unfold sw Jc
    split
    ·rw[if_neg (by omega),if_neg (by omega)]
    ·rw[if_neg (by omega),if_neg (by omega)]
   rw[this]
def bil (n:Nat) (M:Q4) (u v:Nat→Rat):Rat:=Qt n fun i=>u i*Qt n fun k=>M i k*v k
def qf (n:Nat) (M:Q4) (v:Nat→Rat):Rat:=bil n M v v
theorem bil_congr {n:Nat} {M N:Q4} {u u' v v':Nat→Rat} (hM:∀i k,i<n→k<n→M i k=N i k) (hu:∀i,i<n→u i=u' i) (hv:∀i,i<n→v i=v' i):bil n M u v=bil n N u' v':=
 Qq fun i hi=>by rw[hu i hi,Qq (n:=n) (g:=fun k=>N i k*v' k) fun k hk=>by rw[hM i k hi hk,hv k hk]]
theorem Qad {n:Nat} {M:Q4} {u v:Nat→Rat} (h:∀i,i<n→u i=v i):qf n M u=qf n M v:=bil_congr (fun _ _ _ _=>rfl) h h
theorem bil_neg (n:Nat) (M:Q4) (u v:Nat→Rat):bil n M (fun i => -u i) (fun i => -v i)=bil n M u v:=by
 unfold bil
 refine Qq fun i _=>?_
 have:(fun k=>M i k * -v k)=fun k => -1*(M i k*v k):=by funext k; grind
 rw[this,Yd]
 grind
def Kh (M:Q4):Q4:=fun r c => -(M r c)
theorem qf_negM (n:Nat) (M:Q4) (v:Nat→Rat):qf n (Kh M) v = -(qf n M v):=by
 unfold qf bil Kh
 rw[show -(Qt n fun i=>v i*Qt n fun k=>M i k*v k) = -1*Qt n fun i=>v i*Qt n fun k=>M i k*v k by grind,← Yd]
 refine Qq fun i _=>?_
 have:(fun k => -(M i k)*v k)=fun k => -1*(M i k*v k):=by funext k; grind
 rw[this,Yd]
 grind
theorem Qd9 (M:Q4):Kh (Kh M)=M:=by
 funext r c
 unfold Kh
 rw[Rat.neg_neg]
def Jq (p:Nat) (a:Nat→Rat) (E:Q4):Nat→Rat:=fun c=>Qt p fun i=>a i*E i c
def Pos (n:Nat) (M:Q4) (p:Nat):Prop:=∃E:Q4,∀a:Nat→Rat,(∃i,i<p∧a i≠0)→0<qf n M (Jq p a E)
def Qan (n:Nat) (M:Q4) (m:Nat):Prop:=∃F:Q4,(∀a:Nat→Rat,(∀c,c<n→Jq m a F c=0)→∀i,i<m→a i=0)∧∀a:Nat→Rat,qf n M (Jq m a F)≤0
theorem Qdg {n p m:Nat} {M:Q4} (h1:Pos n M p) (h2:Qan n M m):p+m≤n:=by
 rcases Nat.lt_or_ge n (p+m)with hlt|h
 ·exfalso
  obtain⟨E,hE⟩:=h1
  obtain⟨F,hF,hQ⟩:=h2
  obtain⟨x,⟨q,hq,hxq⟩,hx⟩:=dep n (p+m) (fun i c=>if i<p then E i c else F (i-p) c) hlt
  have key:∀c,c<n→Jq p x E c = -(Jq m (fun i=>x (p+i)) F c):=by
   intro c hc
   have:=hx c hc
   rw[sumN_app]at this
   rw[Qq (n:=p) (g:=fun i=>x i*E i c) fun i hi=>by rw[if_pos hi],Qq (n:=m) (g:=fun i=>x (p+i)*F i c) fun i _=>by rw[if_neg (by omega),show p+i-p=i by omega]]at this
   show Qt p _ = -(Qt m _)
   grind
  by_cases h0:∃i,i<p∧x i≠0
  ·have k1:=hE x h0
   have k2:=hQ fun i=>x (p+i)
   rw[Qad key]at k1
   have:=bil_neg n M (Jq m (fun i=>x (p+i)) F) (Jq m (fun i=>x (p+i)) F)
   unfold qf at k1 k2
   rw[this]at k1
   exact absurd k1 (Rat.not_lt.2 k2)
  ·have hz:∀i,i<p→x i=0:=fun i hi=>Classical.byContradiction fun hn=>h0 ⟨i,hi,hn⟩
   have hc0:∀c,c<n→Jq m (fun i=>x (p+i)) F c=0:=fun c hc=>by
    have:=key c hc
    rw[show Jq p x E c=0 from Jd fun i hi=>by rw[hz i hi,Rat.zero_mul]]at this
    grind
   rcases Nat.lt_or_ge q p with h3|h3
   ·exact hxq (hz q h3)
   ·have:=hF _ hc0 (q-p) (by omega)
    rw[show p+(q-p)=q by omega]at this
    exact hxq this
 ·exact h
structure Emb (k n:Nat) (N M:Q4) (T:(Nat→Rat)→Nat→Rat):Prop where
 lin:∀p a E c,c<n→T (Jq p a E) c=Jq p a (fun i=>T (E i)) c
 inj:∀v,(∀c,c<n→T v c=0)→∀c,c<k→v c=0
 q:∀v,qf n M (T v)=qf k N v
theorem Emb.pos {k n p:Nat} {N M:Q4} {T:(Nat→Rat)→Nat→Rat} (h:Emb k n N M T):Pos k N p→Pos n M p:=by
 rintro⟨E,hE⟩
 refine⟨fun i=>T (E i),fun a ha=>?_⟩
 rw[← Qad fun c hc=>h.lin p a E c hc,h.q]
 exact hE a ha
theorem Emb.nonpos {k n m:Nat} {N M:Q4} {T:(Nat→Rat)→Nat→Rat} (h:Emb k n N M T):Qan k N m→Qan n M m:=by
 rintro⟨F,hF,hQ⟩
 refine⟨fun i=>T (F i),fun a ha=>hF a (h.inj _ fun c hc=>(h.lin m a F c hc).trans (ha c hc)),fun a=>?_⟩
 rw[← Qad fun c hc=>h.lin m a F c hc,h.q]
 exact hQ a
def Chr (n:Nat) (M:Q4) (p:Nat):Prop:=p≤n∧Pos n M p∧Qan n M (n-p)
theorem Chr.uniq {n p q:Nat} {M:Q4} (h1:Chr n M p) (h2:Chr n M q):p=q:=by
 have a:=Qdg h1.2.1 h2.2.2
 have b:=Qdg h2.2.1 h1.2.2
 have:=h1.1
 have:=h2.1
 omega
theorem Emb.chr {n p:Nat} {N M:Q4} {T:(Nat→Rat)→Nat→Rat} (h:Emb n n N M T) (hc:Chr n N p):Chr n M p:=⟨hc.1,h.pos hc.2.1,h.nonpos hc.2.2⟩
theorem Emb.neg {k n:Nat} {N M:Q4} {T:(Nat→Rat)→Nat→Rat} (h:Emb k n N M T):Emb k n (Kh N) (Kh M) T:=⟨h.lin,h.inj,fun v=>by rw[qf_negM,qf_negM,h.q]⟩
theorem pos_all {n:Nat} {M:Q4} (h:Pos n M n) {v:Nat→Rat} (hv:∃i,i<n∧v i≠0):0<qf n M v:=by
 refine Classical.byContradiction fun hn=>?_
 have hle:qf n M v≤0:=Rat.not_lt.1 hn
 have:Qan n M 1:=by
  refine⟨fun _=>v,fun a ha i hi=>?_,fun a=>?_⟩
  ·obtain⟨j,hj,hvj⟩:=hv
   have h1:0+a 0*v j=0:=ha j hj
   rw[Rat.zero_add]at h1
   rw[show i=0 by omega]
   rcases Rat.mul_eq_zero.1 h1 with h1|h1
   ·exact h1
   ·exact absurd h1 hvj
  ·have e:qf n M (Jq 1 a fun _=>v)=a 0*a 0*qf n M v:=by
    unfold qf bil
    rw[← Yd]
    refine Qq fun i _=>?_
    have e2:∀k,Jq 1 a (fun _=>v) k=a 0*v k:=fun k=>by show 0+a 0*v k=_; rw[Rat.zero_add]
    rw[e2,show(fun k=>M i k*Jq 1 a (fun _=>v) k)=fun k=>a 0*(M i k*v k) by funext k; rw[e2]; grind,Yd]
    grind
   rw[e]
   have h2:0≤a 0*a 0:=by
    rcases Rat.le_total (a:=0) (b:=a 0)with h|h
    ·exact Rat.mul_nonneg h h
    ·have:=Rat.mul_nonneg (a :=-(a 0)) (b :=-(a 0)) (by grind) (by grind)
     grind
   have h3:=Rat.mul_nonneg h2 (show 0 ≤ -(qf n M v) by grind)
   grind
 have:=Qdg h this
 omega
def swpM (p:Nat) (M:Q4):Q4:=fun r c=>M (sw p r) (sw p c)
def Wz (i k:Nat) (M:Q4):Q4:=fun r c=>(if r=i then M i c+M k c else M r c)+if c=i then(if r=i then M i k+M k k else M r k)else 0
def Z3 (M:Q4):Q4:=fun r c=>M (r+1) (c+1)-M (r+1) 0/M 0 0*M 0 (c+1)
theorem emb_swp {n p:Nat} (hp:p<n) (M:Q4):Emb n n (swpM p M) M fun v c=>v (sw p c):=by
 refine⟨fun _ _ _ _ _=>rfl,fun v h c hc=>?_,fun v=>?_⟩
 ·have:=h (sw p c) (sw_lt hp hc)
  rwa [sw_sw]at this
 ·unfold qf bil swpM
  rw[← sumN_sw hp fun i=>v (sw p i)*Qt n fun k=>M i k*v (sw p k)]
  refine Qq fun i _=>?_
  rw[sw_sw,← sumN_sw hp fun k=>M (sw p i) k*v (sw p k)]
  refine congrArg (v i*·) (Qq fun k _=>?_)
  rw[sw_sw]
theorem emb_ad {n i k:Nat} (hi:i<n) (hk:k<n) (hne:i≠k) (M:Q4):Emb n n (Wz i k M) M fun v c=>v c+if c=k then v i else 0:=by
 refine⟨fun p a E c _=>?_,fun v h c hc=>?_,fun v=>?_⟩
 ·unfold Jq
  dsimp only
  by_cases h:c=k
  ·rw[if_pos h,← Wl]
   exact Qq fun j _=>by rw[if_pos h]; grind
  ·rw[if_neg h,Rat.add_zero]
   exact Qq fun j _=>by rw[if_neg h]; grind
 ·have h1:=h c hc
  have h2:=h i hi
  rw[if_neg hne,Rat.add_zero]at h2
  by_cases hck:c=k
  ·rw[if_pos hck,h2,Rat.add_zero]at h1
   exact h1
  ·rw[if_neg hck,Rat.add_zero]at h1
   exact h1
 ·unfold qf bil
  have e1:∀r,(Qt n fun c=>M r c*(v c+if c=k then v i else 0))=(Qt n fun c=>M r c*v c)+M r k*v i:=fun r=>by
   rw[← Qbd hk]
   refine Qq fun c _=>?_
   by_cases h:c=k
   ·rw[if_pos h,if_pos h,h]; grind
   ·rw[if_neg h,if_neg h]; grind
  have e2:∀r,(Qt n fun c=>Wz i k M r c*v c)=((Qt n fun c=>M r c*v c)+M r k*v i)+if r=i then(Qt n fun c=>M k c*v c)+M k k*v i else 0:=fun r=>by
   by_cases h:r=i
   ·subst h
    have e3:∀c,Wz r k M r c*v c=(M r c*v c+M k c*v c)+if c=r then(M r k+M k k)*v r else 0:=fun c=>by
     unfold Wz
     rw[if_pos rfl,if_pos rfl]
     by_cases h2:c=r
     ·rw[if_pos h2,if_pos h2,h2]; grind
     ·rw[if_neg h2,if_neg h2]; grind
    rw[Qq fun c _=>e3 c,Qbd hi,Wl,if_pos rfl]
    grind
   ·have e3:∀c,Wz i k M r c*v c=M r c*v c+if c=i then M r k*v i else 0:=fun c=>by
     unfold Wz
     rw[if_neg h,if_neg h]
     by_cases h2:c=i
     ·rw[if_pos h2,if_pos h2,h2]; grind
     ·rw[if_neg h2,if_neg h2]; grind
    rw[Qq fun c _=>e3 c,Qbd hi,if_neg h,Rat.add_zero]
  rw[Qq (n:=n) (f:=fun r=>(v r+if r=k then v i else 0)*Qt n fun c=>M r c*(v c+if c=k then v i else 0)) (g:=fun r=>v r*((Qt n fun c=>M r c*v c)+M r k*v i)+if r=k then v i*((Qt n fun c=>M k c*v c)+M k k*v i)else 0) fun r _=>?_,
   Qq (n:=n) (f:=fun r=>v r*Qt n fun c=>Wz i k M r c*v c) (g:=fun r=>v r*((Qt n fun c=>M r c*v c)+M r k*v i)+if r=i then v i*((Qt n fun c=>M k c*v c)+M k k*v i)else 0) fun r _=>?_,Qbd hk,Qbd hi]
  ·rw[e2]
   by_cases h:r=i
   ·rw[if_pos h,if_pos h,h]; grind
   ·rw[if_neg h,if_neg h]; grind
  ·rw[e1]
   by_cases h:r=k
   ·rw[if_pos h,if_pos h,h]; grind
   ·rw[if_neg h,if_neg h]; grind
def Kk (k:Nat) (M:Q4) (v:Nat→Rat):Nat→Rat:=fun c=>if c=0 then -(1/M 0 0*Qt k fun s=>M 0 (s+1)*v s)else v (c-1)
def Sym (n:Nat) (M:Q4):Prop:=∀r c,r<n→c<n→M r c=M c r
theorem lift_row (k:Nat) (M:Q4) (v:Nat→Rat) (t:Rat) (r:Nat):(Qt (k+1) fun c=>M r c*(Kk k M v c+if c=0 then t else 0))=M r 0*(Kk k M v 0+t)+Qt k fun c=>M r (c+1)*v c:=by
 rw[Qcd,if_pos rfl]
 refine congrArg (_+·) (Qq fun c _=>?_)
 rw[if_neg (by omega),Rat.add_zero]
 rfl
theorem qf_lift {k:Nat} {M:Q4} (h0:M 0 0≠0) (hs:Sym (k+1) M) (v:Nat→Rat) (t:Rat):qf (k+1) M (fun c=>Kk k M v c+if c=0 then t else 0)=M 0 0*(t*t)+qf k (Z3 M) v:=by
 unfold qf bil
 rw[Qq (n:=k+1) (g:=fun r=>(Kk k M v r+if r=0 then t else 0)*(M r 0*(Kk k M v 0+t)+Qt k fun c=>M r (c+1)*v c)) fun r _=>by rw[lift_row],Qcd,if_pos rfl]
 have hc:=Rat.mul_inv_cancel _ h0
 have hl:Kk k M v 0 = -((M 0 0)⁻¹*Qt k fun s=>M 0 (s+1)*v s):=by
  show -(1/M 0 0*_)=_
  rw[Rat.div_def,Rat.one_mul]
 have e1:∀r,r<k→v r*(M (r+1) 0*(Kk k M v 0+t)+Qt k fun c=>M (r+1) (c+1)*v c)=v r*(Qt k fun c=>Z3 M r c*v c)+t*(M 0 (r+1)*v r):=fun r hr=>by
  have e2:(Qt k fun c=>Z3 M r c*v c)=(Qt k fun c=>M (r+1) (c+1)*v c) + -(M (r+1) 0*(M 0 0)⁻¹)*Qt k fun c=>M 0 (c+1)*v c:=by
   rw[← Yd,← Wl]
   refine Qq fun c _=>?_
   unfold Z3
   rw[Rat.div_def]
   grind
  rw[e2,hl,hs (r+1) 0 (by omega) (by omega)]
  grind
 have e3:(Qt k fun r=>(Kk k M v (r+1)+if r+1=0 then t else 0)*(M (r+1) 0*(Kk k M v 0+t)+Qt k fun c=>M (r+1) (c+1)*v c))=(Qt k fun r=>v r*Qt k fun c=>Z3 M r c*v c)+t*Qt k fun s=>M 0 (s+1)*v s:=by
  rw[← Yd,← Wl]
  refine Qq fun r hr=>?_
  rw[if_neg (by omega),Rat.add_zero]
  show v r*_=_
  rw[e1 r hr]
 rw[e3,hl]
 grind
theorem lift_lin (k:Nat) (M:Q4) (p:Nat) (a:Nat→Rat) (E:Q4) (c:Nat):Kk k M (Jq p a E) c=Jq p a (fun i=>Kk k M (E i)) c:=by
 unfold Kk Jq
 dsimp only
 by_cases h:c=0
 ·rw[if_pos h]
  have e1:(Qt k fun s=>M 0 (s+1)*Qt p fun i=>a i*E i s)=Qt p fun i=>a i*Qt k fun s=>M 0 (s+1)*E i s:=by
   rw[Qq (n:=k) (g:=fun s=>Qt p fun i=>a i*(M 0 (s+1)*E i s)) fun s _=>by rw[← Yd]; exact Qq fun i _=>by grind,Vh]
   exact Qq fun i _=>Yd _ _ _
  rw[e1,show ∀x:Rat,-(1/M 0 0*x) = -(1/M 0 0)*x from fun x=>by grind,← Yd]
  refine Qq fun i _=>?_
  rw[if_pos h]
  grind
 ·rw[if_neg h]
  exact Qq fun i _=>by rw[if_neg h]
theorem emb_sch {k:Nat} {M:Q4} (h0:M 0 0≠0) (hs:Sym (k+1) M):Emb k (k+1) (Z3 M) M (Kk k M):=by
 refine⟨fun p a E c _=>lift_lin k M p a E c,fun v h c hc=>?_,fun v=>?_⟩
 ·exact h (c+1) (by omega)
 ·have:=qf_lift h0 hs v 0
  rw[show M 0 0*(0*0)=0 by rw[Rat.zero_mul,Rat.mul_zero],Rat.zero_add]at this
  rw[← this]
  exact Qad fun c _=>by split<;>rw[Rat.add_zero]
def moreV (k p:Nat) (M E:Q4):Q4:=fun i=>if i=p then fun c=>if c=0 then 1 else 0 else Kk k M (E i)
theorem Qb9 (k p:Nat) (M E:Q4) (a:Nat→Rat) (c:Nat):Jq (p+1) a (moreV k p M E) c=Kk k M (Jq p a E) c+if c=0 then a p else 0:=by
 rw[lift_lin]
 show Qt p _+a p*moreV k p M E p c=_
 rw[show moreV k p M E p=fun c=>if c=0 then 1 else 0 from if_pos rfl,Qq (n:=p) (g:=fun i=>a i*Kk k M (E i) c) fun i hi=>by rw[show moreV k p M E i=Kk k M (E i)from if_neg (by omega)]]
 show _+a p*(if c=0 then 1 else 0)=Qt p _+_
 by_cases h:c=0
 ·rw[if_pos h,if_pos h,Rat.mul_one]
 ·rw[if_neg h,if_neg h,Rat.mul_zero]
theorem lt_or_gt {x y:Rat} (h:x≠y):x<y∨y<x:=by grind
theorem sq_pos {x:Rat} (h:x≠0):0<x*x:=by
 rcases lt_or_gt h with h|h
 ·have:=Rat.mul_pos (a :=-x) (b :=-x) (by grind) (by grind)
  grind
 ·exact Rat.mul_pos h h
theorem sq_nn (x:Rat):0≤x*x:=by
 by_cases h:x=0
 ·rw[h,Rat.mul_zero]; exact Rat.le_refl
 ·exact Rat.le_of_lt (sq_pos h)
theorem pos_more {k p:Nat} {M:Q4} (h0:0<M 0 0) (hs:Sym (k+1) M):Pos k (Z3 M) p→Pos (k+1) M (p+1):=by
 rintro⟨E,hE⟩
 refine⟨moreV k p M E,fun a ha=>?_⟩
 rw[Qad fun c _=>Qb9 k p M E a c,qf_lift (fun h=>by rw[h]at h0; exact absurd h0 (by decide)) hs]
 by_cases h:∃i,i<p∧a i≠0
 ·have h1:=hE a h
  have h2:=Rat.mul_nonneg (Rat.le_of_lt h0) (sq_nn (a p))
  grind
 ·have hz:∀i,i<p→a i=0:=fun i hi=>Classical.byContradiction fun hn=>h ⟨i,hi,hn⟩
  obtain⟨i,hi,hai⟩:=ha
  have hip:i=p:=by
   rcases Nat.lt_or_ge i p with h'|h'
   ·exact absurd (hz i h') hai
   ·omega
  subst hip
  have h1:qf k (Z3 M) (Jq i a E)=0:=Jd fun j _=>by
   rw[show Jq i a E j=0 from Jd fun q hq=>by rw[hz q hq,Rat.zero_mul],Rat.zero_mul]
  rw[h1,Rat.add_zero]
  exact Rat.mul_pos h0 (sq_pos hai)
theorem nonpos_more {k m:Nat} {M:Q4} (h0:M 0 0<0) (hs:Sym (k+1) M):Qan k (Z3 M) m→Qan (k+1) M (m+1):=by
 rintro⟨F,hF,hQ⟩
 refine⟨moreV k m M F,fun a ha i hi=>?_,fun a=>?_⟩
 ·have h1:∀c,c<k→Jq m a F c=0:=fun c hc=>by
   have:=ha (c+1) (by omega)
   rw[Qb9,if_neg (by omega),Rat.add_zero]at this
   exact this
  have h2:=hF a h1
  rcases Nat.lt_or_ge i m with h|h
  ·exact h2 i h
  ·have:=ha 0 (by omega)
   rw[Qb9,if_pos rfl,show Kk k M (Jq m a F) 0=0 from ?_,Rat.zero_add]at this
   ·rw[show i=m by omega]
    exact this
   ·show -(1/M 0 0*_)=0
    rw[Jd fun s hs'=>by rw[h1 s hs',Rat.mul_zero],Rat.mul_zero]
    rfl
 ·rw[Qad fun c _=>Qb9 k m M F a c,qf_lift (fun h=>by rw[h]at h0; exact absurd h0 (by decide)) hs]
  have h1:=hQ a
  have h2:=Rat.mul_nonneg (a :=-(M 0 0)) (by grind) (sq_nn (a m))
  grind
theorem pos_zero (n:Nat) (M:Q4):Pos n M 0:=⟨fun _ _=>0,fun _ h=>by obtain⟨i,hi,_⟩:=h; omega⟩
theorem Qew {n:Nat} {M:Q4} (h:∀r c,r<n→c<n→M r c=0):Qan n M n:=by
 refine⟨fun i c=>if c=i then 1 else 0,fun a ha i hi=>?_,fun a=>?_⟩
 ·have h1:=ha i hi
  rw[show Jq n a (fun i c=>if c=i then 1 else 0) i=a i from ?_]at h1
  ·exact h1
  ·show(Qt n fun j=>a j*if i=j then 1 else 0)=_
   rw[Vg (p:=i) hi fun j _ hj=>by rw[if_neg (Ne.symm hj),Rat.mul_zero],if_pos rfl,Rat.mul_one]
 ·rw[show qf n M (Jq n a fun i c=>if c=i then 1 else 0)=0 from Jd fun i hi=>by
   rw[Jd fun k hk=>by rw[h i k hi hk,Rat.zero_mul],Rat.mul_zero]]
  exact Rat.le_refl
inductive InR:Nat→Q4→Nat→Nat→Nat→Prop
 |zero {n:Nat} {M:Q4} (h:∀r c,r<n→c<n→M r c=0):InR n M 0 0 n
 |congr {n:Nat} {M N:Q4} {p q z:Nat} (h:∀r c,r<n→c<n→M r c=N r c) (k:InR n N p q z):InR n M p q z
 |swp {n:Nat} {M:Q4} {p q z:Nat} (i:Nat) (hi:i<n) (k:InR n (swpM i M) p q z):InR n M p q z
 |ad {n:Nat} {M:Q4} {p q z:Nat} (i j:Nat) (hi:i<n) (hj:j<n) (hne:i≠j) (k:InR n (Wz i j M) p q z):InR n M p q z
 |pos {n:Nat} {M:Q4} {p q z:Nat} (h:0<M 0 0) (k:InR n (Z3 M) p q z):InR (n+1) M (p+1) q z
 |neg {n:Nat} {M:Q4} {p q z:Nat} (h:M 0 0<0) (k:InR n (Z3 M) p q z):InR (n+1) M p (q+1) z
theorem Sym.congr {n:Nat} {M N:Q4} (h:∀r c,r<n→c<n→M r c=N r c) (hs:Sym n M):Sym n N:=fun r c hr hc=>by rw[← h r c hr hc,← h c r hc hr]; exact hs r c hr hc
theorem Sym.swp {n i:Nat} {M:Q4} (hi:i<n) (hs:Sym n M):Sym n (swpM i M):=fun _ _ hr hc=>hs _ _ (sw_lt hi hr) (sw_lt hi hc)
theorem Sym.ad {n i k:Nat} {M:Q4} (hi:i<n) (hk:k<n) (hs:Sym n M):Sym n (Wz i k M):=fun r c hr hc=>by
 unfold Wz
 have h1:=hs r c hr hc
 have h2:=hs i c hi hc
 have h3:=hs k c hk hc
 have h4:=hs r k hr hk
 have h5:=hs r i hr hi
 have h6:=hs i k hi hk
 by_cases hri:r=i<;>by_cases hci:c=i
 ·subst hri; subst hci; rfl
 ·subst hri; rw[if_pos rfl,if_neg hci,if_neg hci,if_pos rfl,if_neg hci]; grind
 ·subst hci; rw[if_neg hri,if_pos rfl,if_neg hri,if_pos rfl,if_neg hri]; grind
 ·rw[if_neg hri,if_neg hci,if_neg hci,if_neg hri]; grind
theorem Sym.sch {k:Nat} {M:Q4} (hs:Sym (k+1) M):Sym k (Z3 M):=fun r c hr hc=>by
 unfold Z3
 have h1:=hs (r+1) (c+1) (by omega) (by omega)
 have h2:=hs (r+1) 0 (by omega) (by omega)
 have h3:=hs 0 (c+1) (by omega) (by omega)
 rw[Rat.div_def,Rat.div_def,h1,h2,h3]
 grind
theorem Sym.neg {n:Nat} {M:Q4} (hs:Sym n M):Sym n (Kh M):=fun r c hr hc=>by unfold Kh; rw[hs r c hr hc]
theorem schM_neg (M:Q4):Z3 (Kh M)=Kh (Z3 M):=by
 funext r c
 show -(M (r+1) (c+1)) - -(M (r+1) 0) / -(M 0 0) * -(M 0 (c+1)) = -(M (r+1) (c+1)-M (r+1) 0/M 0 0*M 0 (c+1))
 rw[Rat.div_def,Rat.div_def]
 have:(-(M 0 0))⁻¹ = -(M 0 0)⁻¹:=by grind
 rw[this]
 grind
theorem InR.chr {n p q z:Nat} {M:Q4} (h:InR n M p q z):Sym n M→p+q+z=n∧Chr n M p∧Chr n (Kh M) q:=by
 have same:∀{n p:Nat} {M N:Q4},(∀r c,r<n→c<n→M r c=N r c)→Chr n N p→Chr n M p:=fun {n p M N} h hc=>by
  have e:∀v,qf n M v=qf n N v:=fun v=>bil_congr h (fun _ _=>rfl) fun _ _=>rfl
  obtain⟨h1,⟨E,hE⟩,F,hF,hQ⟩:=hc
  exact⟨h1,⟨E,fun a ha=>by rw[e]; exact hE a ha⟩,F,hF,fun a=>by rw[e]; exact hQ a⟩
 have step:∀{k p q:Nat} {M:Q4},0<M 0 0→Sym (k+1) M→Chr k (Z3 M) p→Chr k (Kh (Z3 M)) q→Chr (k+1) M (p+1)∧Chr (k+1) (Kh M) q:=fun {k p q M} h0 hs h1 h2=>by
  refine⟨⟨by have:=h1.1; omega,pos_more h0 hs h1.2.1,?_⟩,⟨by have:=h2.1; omega,?_,?_⟩⟩
  ·rw[show k+1-(p+1)=k-p by omega]
   exact(emb_sch (fun h=>by rw[h]at h0; exact absurd h0 (by decide)) hs).nonpos h1.2.2
  ·exact(emb_sch (fun h=>by rw[h]at h0; exact absurd h0 (by decide)) hs).neg.pos h2.2.1
  ·have:=h2.1
   rw[show k+1-q=k-q+1 by omega]
   refine nonpos_more (show -(M 0 0)<0 by grind) hs.neg ?_
   rw[schM_neg]
   exact h2.2.2
 induction h with
 |@zero n M h=>
  intro _
  exact⟨by omega,⟨Nat.zero_le _,pos_zero _ _,Qew h⟩,⟨Nat.zero_le _,pos_zero _ _,Qew fun r c hr hc=>by unfold Kh; rw[h r c hr hc]; rfl⟩⟩
 |congr h k ih=>
  intro hs
  obtain⟨h1,h2,h3⟩:=ih (hs.congr h)
  exact⟨h1,same h h2,same (fun r c hr hc=>by unfold Kh; rw[h r c hr hc]) h3⟩
 |swp i hi k ih=>
  intro hs
  obtain⟨h1,h2,h3⟩:=ih (hs.swp hi)
  exact⟨h1,(emb_swp hi _).chr h2,(emb_swp hi _).neg.chr h3⟩
 |ad i j hi hj hne k ih=>
  intro hs
  obtain⟨h1,h2,h3⟩:=ih (hs.ad hi hj)
  exact⟨h1,(emb_ad hi hj hne _).chr h2,(emb_ad hi hj hne _).neg.chr h3⟩
 |@pos n M p q z h k ih=>
  intro hs
  obtain⟨h1,h2,h3⟩:=ih hs.sch
  obtain⟨h4,h5⟩:=step h hs h2 h3
  exact⟨by omega,h4,h5⟩
 |@neg n M p q z h k ih=>
  intro hs
  obtain⟨h1,h2,h3⟩:=ih hs.sch
  obtain⟨h4,h5⟩:=step (M:=Kh M) (show 0 < -(M 0 0) by grind) hs.neg (by rw[schM_neg]; exact h3) (by rw[schM_neg,Qd9]; exact h2)
  rw[Qd9]at h5
  exact⟨by omega,h5,h4⟩
theorem InR.ex:∀(n:Nat) (M:Q4),Sym n M→∃p q z,InR n M p q z
 |0,M,_=>⟨0,0,0,.zero fun r c h=>absurd h (Nat.not_lt_zero _)⟩
 |n+1,M,hs=>by
  have one:∀N:Q4,Sym (n+1) N→N 0 0≠0→∃p q z,InR (n+1) N p q z:=fun N hN h=>by
   obtain⟨p,q,z,k⟩:=InR.ex n (Z3 N) hN.sch
   rcases lt_or_gt h with h|h
   ·exact⟨p,q+1,z,.neg h k⟩
   ·exact⟨p+1,q,z,.pos h k⟩
  have two:∀(N:Q4) (i:Nat),Sym (n+1) N→i<n+1→N i i≠0→∃p q z,InR (n+1) N p q z:=fun N i hN hi h=>by
   obtain⟨p,q,z,k⟩:=one (swpM i N) (hN.swp hi) h
   exact⟨p,q,z,.swp i hi k⟩
  by_cases h:∃i,i<n+1∧M i i≠0
  ·obtain⟨i,hi,h⟩:=h
   exact two M i hs hi h
  ·have hd:∀i,i<n+1→M i i=0:=fun i hi=>Classical.byContradiction fun hn=>h ⟨i,hi,hn⟩
   by_cases h2:∃i j,i<n+1∧j<n+1∧M i j≠0
   ·obtain⟨i,j,hi,hj,h2⟩:=h2
    have hne:i≠j:=fun e=>h2 (by subst e; exact hd i hi)
    obtain⟨p,q,z,k⟩:=two (Wz i j M) i (hs.ad hi hj) hi (by
     unfold Wz
     rw[if_pos rfl,if_pos rfl,if_pos rfl,hd i hi,hd j hj,hs j i hj hi]
     grind)
    exact⟨p,q,z,.ad i j hi hj hne k⟩
   ·exact⟨0,0,n+1,.zero fun r c hr hc=>Classical.byContradiction fun hn=>h2 ⟨r,c,hr,hc,hn⟩⟩
end Wx
