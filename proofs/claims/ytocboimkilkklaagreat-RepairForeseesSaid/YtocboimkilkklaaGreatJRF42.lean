import Derived.Test.YtocboimkilkklaaGreatCRFDown
import Derived.Test.YtocboimkilkklaaGreatJRF24
namespace Wx
open Go Go.RowKit Go.Proofs
end Wx

namespace Wx
open Go Go.RowKit Go.Proofs
theorem PO (w:World) (vx:Value) (x:Rat) (k:Int) (hx:cq w vx x) {j:Nat} (hj:bg j x) (kP:j<=10000000):Calls Tryz.prog 88 #[vx,.int .i64 k] w (fD w (-(bT (-x) k))):=by
 obtain⟨oz,oA,rfl,cw,cT⟩:=id hx
 obtain⟨aV,aX,rfl,_⟩:=id cw
 obtain⟨aW,aY,rfl,_⟩:=id cT
 go_enter Tryz.func88,Tryz.ntmps88
 go_wp2_with fail
 obtain⟨w1,e1,o1,b1,s1⟩:=fh w (.bool (decide (x.num<0))) (.slice aV (ae b64 x.num.natAbs).length aX) (.slice aW (ae b64 (ah x.den)).length aY) 32
 obtain⟨w2,e2,o2,b2,s2⟩:=fh w1 (.bool false) (.slice none 0 0) (.slice none 0 0) 32
 rw[e1,e2]
 rw[s1]at o2
 have p1:=(o1.gone b2)
 have p2:=o2
 have B0:=(b1.trans (b2.mono b1.size))
 have hS:∀w',aD w (w.heap.size+1) 32 [(w.heap.size,.bool (decide (x.num<0)),.slice aV (ae b64 x.num.natAbs).length aX,.slice aW (ae b64 (ah x.den)).length aY)] w'->aD w (w.heap.size+1) 32 [(w.heap.size,.bool (decide (x.num<0)),.slice aV (ae b64 x.num.natAbs).length aX,.slice aW (ae b64 (ah x.den)).length aY)] w'/\w'.cell? ⟨w.heap.size,0,none⟩=some (.bool (decide (x.num<0)))/\w'.cell? ⟨w.heap.size,1,none⟩=some (.slice aV (ae b64 x.num.natAbs).length aX)/\w'.cell? ⟨w.heap.size,2,none⟩=some (.slice aW (ae b64 (ah x.den)).length aY)/\w'.cell? ⟨w.heap.size+1,0,none⟩=some (cv w' ⟨w.heap.size+1,0,none⟩)/\w'.cell? ⟨w.heap.size+1,1,none⟩=some (cv w' ⟨w.heap.size+1,1,none⟩)/\w'.cell? ⟨w.heap.size+1,2,none⟩=some (cv w' ⟨w.heap.size+1,2,none⟩)/\w'.frozen? ⟨w.heap.size+1,0,none⟩=false/\w'.frozen? ⟨w.heap.size+1,1,none⟩=false/\w'.frozen? ⟨w.heap.size+1,2,none⟩=false:=λw' hh=>by
  obtain⟨f0,f1,f2,f3,f4,f5⟩:=hh.cells
  have q1:=(hh.2.2.1 (w.heap.size,.bool (decide (x.num<0)),.slice aV (ae b64 x.num.natAbs).length aX,.slice aW (ae b64 (ah x.den)).length aY) (by simp)).2
  exact⟨hh,q1.c0,q1.c1,q1.c2,f0,f1,f2,f3,f4,f5⟩
 have H0:aD w (w.heap.size+1) 32 [(w.heap.size,.bool (decide (x.num<0)),.slice aV (ae b64 x.num.natAbs).length aX,.slice aW (ae b64 (ah x.den)).length aY)] w2:=⟨B0,by omega,by intro p hp; simp at hp; subst hp; exact⟨by simp,p1⟩,_,_,_,p2,cj _,aG _ _ _,aG _ _ _⟩
 clear e1 e2
 have hz:=H0
 obtain⟨_,k0,k1,k2,k3,k4,k5⟩:=hS _ hz
 refine(neg_num _ _ x (hx.below hz.1)).mono ?_
 rintro e wy ⟨vr,rfl,pZ,hb⟩
 have hz:=aD.call (And.intro hz trivial) hb
 clear k0 k1 k2 k3 k4 k5
 obtain⟨_,k0,k1,k2,k3,k4,k5⟩:=hS _ hz
 go_wp2_with fail
 refine(Am _ _ (-x) k pZ hj.neg kP).mono ?_
 rintro e wy ⟨vr,rfl,pZ,hb⟩
 have hz:=aD.call (And.intro hz trivial) hb
 clear k0 k1 k2 k3 k4 k5
 obtain⟨_,k0,k1,k2,k3,k4,k5⟩:=hS _ hz
 go_wp2_with fail
 refine(neg_num _ _ _ pZ).mono ?_
 rintro e wy ⟨vr,rfl,pZ,hb⟩
 have hz:=aD.call (And.intro hz trivial) hb
 clear k0 k1 k2 k3 k4 k5
 generalize -(bT (-x) k)=qq at *
 obtain⟨Mr,Mq,rfl,pY,hrd⟩:=id pZ
 obtain⟨mo,my,rfl,_⟩:=id pY
 obtain⟨mw,mz,rfl,_⟩:=id hrd
 obtain⟨_,k0,k1,k2,k3,k4,k5,k6,k7,k8⟩:=hS _ hz
 go_wp2
 obtain⟨wf,HW,f0,f1,f2,cW⟩:=hz.fin rfl pY hrd
 rw[HW]
 (try simp only[Exit.inBlock,Exit.then])
 refine bodyPost_ret (by simp[results,Tryz.results88,go_sem,f0,f1,f2]; try rfl) rfl ?_
 exact cW
end Wx

namespace Wx
def gB (q:Rat):Rat:=cL (decide (q.num<0)) (q.num.natAbs/q.den+(if q.num<0/\0<q.num.natAbs%q.den then 1 else 0)) 1
theorem By (z:Int) (d:Nat) (hd:0<d):sg (decide (z<0)) (z.natAbs/d+(if z<0/\0<z.natAbs%d then 1 else 0))=z/(d:Int):=by
 have h1:=Nat.div_add_mod z.natAbs d
 have h2:=Nat.mod_lt z.natAbs hd
 have h3:=Int.mul_ediv_add_emod z (d:Int)
 have h4:=Int.emod_nonneg z (show(d:Int)≠0 by omega)
 have h5:=Int.emod_lt_of_pos z (show(0:Int)<(d:Int) by omega)
 by_cases hz:z<0
 ·rw[decide_eq_true hz]
  simp only[sg,if_true]
  have e:z = -((z.natAbs:Nat):Int):=by omega
  generalize z.natAbs=m at *
  subst e
  rcases Nat.eq_zero_or_pos (m%d)with h0|h0
  ·rw[if_neg (by omega),Nat.add_zero]
   symm
   have e2:-((m:Nat):Int)=(d:Int)*(-((m/d:Nat):Int)):=by
    have:(m:Int)=(d:Int)*((m/d:Nat):Int):=by rw[<-Int.natCast_mul]; omega
    rw[Int.mul_neg,<-this]
   rw[e2,Int.mul_ediv_cancel_left _ (by omega)]
  ·rw[if_pos ⟨hz,h0⟩]
   symm
   have e2:-((m:Nat):Int)=(d:Int)*(-((m/d+1:Nat):Int))+((d-m%d:Nat):Int):=by
    have h6:(m:Int)=(d:Int)*((m/d:Nat):Int)+((m%d:Nat):Int):=by rw[<-Int.natCast_mul]; omega
    rw[Int.natCast_add,Int.neg_add,Int.mul_add,Int.mul_neg]
    omega
   rw[e2,Int.add_comm,Int.add_mul_ediv_left _ _ (by omega),Int.ediv_eq_zero_of_lt (by omega) (by omega)]
   omega
 ·rw[decide_eq_false hz,if_neg (by omega),Nat.add_zero]
  simp only[sg,Bool.false_eq_true,if_false]
  have e:z=((z.natAbs:Nat):Int):=by omega
  generalize z.natAbs=m at *
  subst e
  exact Int.natCast_ediv m d
theorem xj (n:Int) (d:Nat) (hd:0<d):((n:Rat)/(d:Rat)).floor=n/(d:Int):=by
 have hd':(0:Rat)<((d:Nat):Rat):=by exact_mod_cast hd
 have key:∀z:Int,z<=((n:Rat)/(d:Rat)).floor↔z<=n/(d:Int):=by
  intro z
  rw[Rat.le_floor_iff,Int.le_ediv_iff_mul_le (by omega)]
  rw[<-Rat.not_lt,Rat.div_lt_iff hd']
  have e:(z:Rat)*((d:Nat):Rat)=((z*(d:Int):Int):Rat):=by rw[Rat.intCast_mul,Rat.intCast_natCast]
  rw[e,Rat.intCast_lt_intCast]
  omega
 exact Int.le_antisymm ((key _).1 (Int.le_refl _)) ((key _).2 (Int.le_refl _))
theorem rX (q:Rat):(q.num:Rat)/((q.den:Nat):Rat)=q:=by rw[<-Rat.mkRat_eq_div,Rat.mkRat_self]
theorem wh (q:Rat):q.floor=q.num/(q.den:Int):=by
 have:=xj q.num q.den q.den_pos
 rwa [rX]at this
theorem Fh (q:Rat):gB q=(q.floor:Rat):=by
 unfold gB cL
 rw[By _ _ q.den_pos,Rat.mkRat_one,wh]
end Wx

namespace Wx
def pw (k:Nat):Rat:=((2^k:Nat):Rat)
theorem Io (x:Rat) (k:Nat):(x*pw k).floor=(x.num*2^k)/(x.den:Int):=by
 rw[<-xj _ _ x.den_pos]
 congr 1
 have h:=rX x
 have hd:((x.den:Nat):Rat)≠0:=by have:=x.den_pos; exact_mod_cast (show x.den≠0 by omega)
 have e:((x.num*2^k:Int):Rat)=(x.num:Rat)*pw k:=by
  unfold pw
  rw[Rat.intCast_mul]
  congr 1
 rw[e]
 generalize pw k=p
 conv=>lhs; rw[<-h]
 rw[Rat.div_def,Rat.div_def]
 grind
theorem Ib (x:Rat) (k:Int):bT x k=((x*pw (bitsOf k)).floor:Rat)/pw (bitsOf k):=by
 rw[Io]
 unfold bT pT cL
 generalize bitsOf k=K
 have e1:(x.num*2^K).natAbs=x.num.natAbs*2^K:=by rw[Int.natAbs_mul,Int.natAbs_pow]; rfl
 have hp:(0:Int)<2^K:=Int.pow_pos (by omega)
 have e2:x.num*2^K<0↔x.num<0:=by
  constructor
  ·intro h
   rcases Int.lt_or_le x.num 0 with h'|h'
   ·exact h'
   ·have:=Int.mul_nonneg h' (Int.le_of_lt hp); omega
  ·intro h; exact Int.mul_neg_of_neg_of_pos h hp
 have h:=By (x.num*2^K) x.den x.den_pos
 rw[e1]at h
 simp only[e2]at h
 rw[h,Rat.mkRat_eq_div]
 rfl
end Wx

namespace Wx
end Wx

namespace Wx
end Wx

namespace Wx
open Go Go.RowKit Go.Proofs
def eH (l:List Rat):Nat->Rat
 |0=>l.getD 0 0
 |k+1=>if fR (l.getD k 0) (eH l k)<0 then l.getD k 0 else eH l k
def eG (l:List Rat):Nat->Rat
 |0=>l.getD 0 0
 |k+1=>if fR (l.getD k 0) (eG l k)>0 then l.getD k 0 else eG l k
theorem wR (x:Rat):fR x x=0:=ez rfl
theorem FX (l:List Rat):eH l 1=l.getD 0 0:=by unfold eH; rw[eH,wR]; rfl
theorem FV (l:List Rat):eG l 1=l.getD 0 0:=by unfold eG; rw[eG,wR]; rfl
variable {l:List Rat} {j:Nat}
theorem nI (hb:∀x∈l,bg j x) {k:Nat} (hk:k<l.length):bg j (l.getD k 0):=by
 rw[List.getD_eq_getElem?_getD,List.getElem?_eq_getElem hk]
 exact hb _ (List.getElem_mem hk)
theorem tF (hb:∀x∈l,bg j x) (h0:0<l.length):∀k,k<=l.length->bg j (eH l k):=by
 intro k
 induction k with
 |zero=>intro _; exact nI hb h0
 |succ k ih=>
  intro hk
  unfold eH
  split
  ·exact nI hb (by omega)
  ·exact ih (by omega)
theorem tE (hb:∀x∈l,bg j x) (h0:0<l.length):∀k,k<=l.length->bg j (eG l k):=by
 intro k
 induction k with
 |zero=>intro _; exact nI hb h0
 |succ k ih=>
  intro hk
  unfold eG
  split
  ·exact nI hb (by omega)
  ·exact ih (by omega)
theorem kX (l:List Rat):∀k i,i<k->eH l k<=l.getD i 0:=by
 intro k
 induction k with
 |zero=>intro i h; omega
 |succ k ih=>
  intro i hi
  unfold eH
  by_cases h:fR (l.getD k 0) (eH l k)<0
  ·rw[if_pos h]
   have h1:l.getD k 0<eH l k:=by
    rcases GD (l.getD k 0) (eH l k)with h2|h2|h2
    ·exact h2
    ·rw[ez h2]at h; omega
    ·rw[eB h2]at h; omega
   by_cases Fo:i=k
   ·rw[Fo]; exact Rat.le_refl
   ·have:=ih i (by omega); grind
  ·rw[if_neg h]
   by_cases Fo:i=k
   ·rw[Fo]
    rcases GD (l.getD k 0) (eH l k)with h2|h2|h2
    ·rw[ej h2]at h; omega
    ·rw[h2]; exact Rat.le_refl
    ·grind
   ·exact ih i (by omega)
theorem kS (l:List Rat):∀k i,i<k->l.getD i 0<=eG l k:=by
 intro k
 induction k with
 |zero=>intro i h; omega
 |succ k ih=>
  intro i hi
  unfold eG
  by_cases h:fR (l.getD k 0) (eG l k)>0
  ·rw[if_pos h]
   have h1:eG l k<l.getD k 0:=by
    rcases GD (l.getD k 0) (eG l k)with h2|h2|h2
    ·rw[ej h2]at h; omega
    ·rw[ez h2]at h; omega
    ·exact h2
   by_cases Fo:i=k
   ·rw[Fo]; exact Rat.le_refl
   ·have:=ih i (by omega); grind
  ·rw[if_neg h]
   by_cases Fo:i=k
   ·rw[Fo]
    rcases GD (l.getD k 0) (eG l k)with h2|h2|h2
    ·grind
    ·rw[h2]; exact Rat.le_refl
    ·rw[eB h2]at h; omega
   ·exact ih i (by omega)
theorem xB (l:List Rat):∀k,∃i,i<=k/\(0<k->i<k)/\eH l k=l.getD i 0:=by
 intro k
 induction k with
 |zero=>exact⟨0,by omega,by omega,rfl⟩
 |succ k ih=>
  unfold eH
  split
  ·exact⟨k,by omega,by omega,rfl⟩
  ·obtain⟨i,h1,h2,h3⟩:=ih
   exact⟨i,by omega,by omega,h3⟩
theorem xy (l:List Rat):∀k,∃i,i<=k/\(0<k->i<k)/\eG l k=l.getD i 0:=by
 intro k
 induction k with
 |zero=>exact⟨0,by omega,by omega,rfl⟩
 |succ k ih=>
  unfold eG
  split
  ·exact⟨k,by omega,by omega,rfl⟩
  ·obtain⟨i,h1,h2,h3⟩:=ih
   exact⟨i,by omega,by omega,h3⟩
def eZ (a b c d:Rat):Rat:=eH [a,b,c,d] 4
def eY (a b c d:Rat):Rat:=eG [a,b,c,d] 4
def min2 (a b:Rat):Rat:=eH [a,b] 2
def max2 (a b:Rat):Rat:=eG [a,b] 2
variable {x:Rat}
theorem jU {y:Rat} (h:x=y):∀w v,au x w v->au y w v:=λ_ _ k=>h▸k
variable {a b c d:Rat}
theorem Qr (ha:bg j a) (hb:bg j b) (hc:bg j c) (hd:bg j d):∀x∈[a,b,c,d],bg j x:=by
 intro x hx
 simp only[List.mem_cons,List.not_mem_nil,or_false]at hx
 rcases hx with h|h|h|h<;>rw[h]<;>assumption
theorem Wv (ha:bg j a) (hb:bg j b):∀x∈[a,b],bg j x:=by
 intro x hx
 simp only[List.mem_cons,List.not_mem_nil,or_false]at hx
 rcases hx with h|h<;>rw[h]<;>assumption
theorem nK (ha:bg j a) (hb:bg j b) (hc:bg j c) (hd:bg j d):bg j (eZ a b c d):=tF (Qr ha hb hc hd) (by simp) 4 (by simp)
theorem nJ (ha:bg j a) (hb:bg j b) (hc:bg j c) (hd:bg j d):bg j (eY a b c d):=tE (Qr ha hb hc hd) (by simp) 4 (by simp)
theorem Dy (ha:bg j a) (hb:bg j b):bg j (min2 a b):=tF (Wv ha hb) (by simp) 2 (by simp)
theorem Dx (ha:bg j a) (hb:bg j b):bg j (max2 a b):=tE (Wv ha hb) (by simp) 2 (by simp)
theorem tD (h:bg j x) (k:Int):bg (j+300) (bT x k):=by
 have h2:=(gE k).2
 unfold bT pT
 refine jY (Nat.two_pow_pos _) ?_ ((Bd.pow2 (K:=bitsOf k) (k:=257) (by omega)).mono (by omega))
 have a1:Bd (j+257) (x.num.natAbs*2^bitsOf k):=h.1.mul (Bd.pow2 (by omega))
 have a2:=a1.le (Nat.div_le_self _ x.den)
 exact((a2.add (show Bd 1 1 by unfold Bd; omega)).mono (by omega)).le (by split<;>omega)
theorem Hg (h:bg j x) (k:Int):bg (j+300) (-(bT (-x) k)):=(tD h.neg k).neg
theorem N3 (hx:bg j x) (hj:j<=10000000) (k:Int):∀w v1 v2,au x w v1->pI k w v2->Calls Tryz.prog 87 #[v1,v2] w (fu (au (bT x k)) w):=λw v1 v2 h1 h2=>by
 have h2:v2=.int .i64 k:=h2
 rw[h2]
 exact Am w v1 x k h1 hx hj
theorem TM (hx:bg j x) (hj:j<=10000000) (k:Int):∀w v1 v2,au x w v1->pI k w v2->Calls Tryz.prog 88 #[v1,v2] w (fu (au (-(bT (-x) k))) w):=λw v1 v2 h1 h2=>by
 have h2:v2=.int .i64 k:=h2
 rw[h2]
 exact PO w v1 x k h1 hx hj
theorem yz (x y:Rat):decide (fR x y<=0)=decide (x<=y):=decide_eq_decide.2 sM
end Wx

namespace Wx
open Go Go.RowKit
section
variable {P:Program} {ops:Array Oper} {ms:List Nat} {c:eL} {V:List Vr} {A:List Al} {G:List bI} {i:Nat}{d:Nat} {x y z:Operand} {ty:TypeId} {pos:String} {aZ:Array Edge}{t u:TypeId} {m:Int} {k:IntKind}
theorem Nq {n:Int} (h1:Has ms G i x (cI (.int k m))) (h2:Has ms G i y (cI (.int k n))) (hp:Post G i (pB (m==n))):OpOk P ops ms c V A G i ⟨some d,.binOp .eql t x y u,ty,pos,aZ,none⟩:=gg h1 h2 (λ_=>by cases k<;>rfl) hp
theorem Nt {n:Int} (h1:Has ms G i x (cI (.int k m))) (h2:Has ms G i y (cI (.int k n))) (hp:Post G i (pB (m != n))):OpOk P ops ms c V A G i ⟨some d,.binOp .neq t x y u,ty,pos,aZ,none⟩:=gg h1 h2 (λ_=>by cases k<;>rfl) hp
theorem bl {o:Oper} (h:OpOk P ops ms c V A G i o:=by
 first
 |exact Ek hs hs (pt rfl)
 |exact Ej hs hs (pt rfl)
 |exact Eh hs hs (pt rfl)
 |exact Eg hs hs (pt rfl)
 |exact Nq hs hs (pt rfl)
 |exact Nt hs hs (pt rfl)
 |exact Ee hs hs (pt rfl)
 |exact Em hs hs (pt rfl)
 |exact El hs hs (pt rfl)):OpOk P ops ms c V A G i o:=h
variable {φ:Prop}
theorem WD (hc:φ) {o:Oper} (h:φ->OpOk P ops ms c V A G i o:=by
 intro hc
 first
 |exact Ek hg hg (pg hc rfl)
 |exact Ej hg hg (pg hc rfl)
 |exact Eh hg hg (pg hc rfl)
 |exact Eg hg hg (pg hc rfl)
 |exact Nq hg hg (pg hc rfl)
 |exact Nt hg hg (pg hc rfl)
 |exact Ee hg hg (pg hc rfl)
 |exact Em hg hg (pg hc rfl)
 |exact El hg hg (pg hc rfl)):OpOk P ops ms c V A G i o:=h hc
theorem ye {j:Nat} {b:Bool} {op:Op} {dst:Option Nat} (h:OpOk P ops ms c V A G i ⟨dst,op,ty,pos,aZ,none⟩) (hq:jX j G=some (pB b):=by exact rfl) (hj:(G.all λe=>e.tag != some j||((ms.getD i 0).testBit j&&jQ ms i e.till))=true:=by kernel_rfl):OpOk P ops ms c V A G i ⟨dst,op,ty,pos,aZ,some (j,b)⟩:=Sq hq rfl h hj
variable {n:Nat} {T:TypeId} {agg:Bool}
theorem iq {s:Nat} {v:Vr} {al:Al} {fs:List Fd} {q:Pred} (ht:Ty P T agg n) (ha:Kv ms i s A=some al:=by exact rfl) (hv:om al.var V=some v:=by exact rfl) (ho:cG ms i v=true:=by exact rfl) (dI:v.kd=.ptr:=by exact rfl) (hst:(v.st.all λq=>(ms.getD i 0).testBit q.1||(ms.getD q.1 0).testBit i)=true:=by exact rfl) (AA:v.agg=true:=by exact rfl)
  (hc:cont (λj=>(ms.getD i 0).testBit j) v.c0 v.st=pv (pS fs):=by exact rfl) (hq:Gc agg (wD fs al.off n)=some q:=by exact rfl) (hp:Post G i q:=by exact pt rfl) (hcd:al.cond:=by first|trivial|assumption) (hlen:decide (al.off+n<=v.n)=true:=by exact rfl):OpOk P ops ms c V A G i ⟨some d,.load T (.tmp s),ty,pos,aZ,none⟩:=
 mZ ha hv ho dI hst hc ht (by rw[AA]; exact qj hq) hcd hp hlen
theorem Q5 (hφ:φ) {T:TypeId} {s n:Nat} {agg:Bool} {v:Vr} {al:Al} {fs:List Fd} {q:Pred} (ht:Ty P T agg n) (ha:Kv ms i s A=some al:=by exact rfl) (hv:om al.var V=some v:=by exact rfl) (ho:cG ms i v=true:=by exact rfl) (dI:v.kd=.ptr:=by exact rfl) (hst:(v.st.all λq=>(ms.getD i 0).testBit q.1||(ms.getD q.1 0).testBit i)=true:=by exact rfl) (AA:v.agg=true:=by exact rfl)
  (hc:cont (λj=>(ms.getD i 0).testBit j) v.c0 v.st=pv (pS fs):=by exact rfl) (hq:Gc agg (wD fs al.off n)=some q:=by exact rfl) (hp:jX i G=some (qw φ q):=by exact rfl) (hcd:al.cond:=by first|trivial|assumption) (hlen:decide (al.off+n<=v.n)=true:=by exact rfl):OpOk P ops ms c V A G i ⟨some d,.load T (.tmp s),ty,pos,aZ,none⟩:=
 mZ ha hv ho dI hst hc ht (by rw[AA]; exact qj hq) hcd (VR hφ hp) hlen
variable {E:TypeId} {sz:Nat}
theorem Xq {f:Nat->Pred} (ht:oq P T E sz) (h:Has ms G i x (dK sz agg n f):=by exact hs) (hy:Has ms G i y (pI m):=by exact hs) (hp:Post G i (fL sz agg (f m.toNat)):=by exact pt rfl) (h0:0<=m:=by omega) (h1:m<n:=by omega) (hA:(A.all λq=>q.tag != some i)=true:=by kernel_rfl):OpOk P ops ms c V A G i ⟨some d,.indexAddr T x y,ty,pos,aZ,none⟩:=nc h hy ht h0 h1 hA hp
theorem S8 {k:Nat} {f:Nat->Pred} (ht:oq P T E sz) (h:Has ms G i x (dK sz agg n f):=by exact hs) (hy:Has ms G i y (pI (k:Int)):=by exact hs) (hp:Post G i (fL sz agg (f k)):=by exact pt rfl) (h1:k<n:=by omega) (hA:(A.all λq=>q.tag != some i)=true:=by kernel_rfl):OpOk P ops ms c V A G i ⟨some d,.indexAddr T x y,ty,pos,aZ,none⟩:=nc h hy ht (by omega) (by omega) hA (by rw[Int.toNat_natCast]; exact hp)
variable {f:FuncId} {ts:Array TypeId} {p p1:Pred}
theorem Qy (hn:aB p) (hc:∀w v1,p1 w v1->Calls P f #[v1] w (fu p w)) (h1:Has ms G i x p1:=by exact hs) (hp:Post G i p:=by exact pt rfl) (hf:aM P f:=by exactλ_ _=>by kernel_rfl):OpOk P ops ms c V A G i ⟨some d,.call ⟨.value (.func f),#[x],ts⟩,ty,pos,aZ,none⟩:=fN hf hn h1 hp hc
variable {p2:Pred}
theorem qN (hn:aB p) (hc:∀w v1 v2,p1 w v1->p2 w v2->Calls P f #[v1,v2] w (fu p w)) (h1:Has ms G i x p1:=by exact hs) (h2:Has ms G i y p2:=by exact hs) (hp:Post G i p:=by exact pt rfl) (hf:aM P f:=by exactλ_ _=>by kernel_rfl):OpOk P ops ms c V A G i ⟨some d,.call ⟨.value (.func f),#[x,y],ts⟩,ty,pos,aZ,none⟩:=dn hf hn h1 h2 hp hc
theorem Hw (hc:∀M w v1,dc M w->aL M (λw=>p1 w v1) w->Calls P f #[v1] w (bu M p w)) (h1:Has ms G i x p1:=by exact hs) (hp:Post G i p:=by exact pt rfl) (hf:aM P f:=by exactλ_ _=>by kernel_rfl):OpOk P ops ms c V A G i ⟨some d,.call ⟨.value (.func f),#[x],ts⟩,ty,pos,aZ,none⟩:=nY hf h1 hp hc
theorem Hx (hc:∀M w v1 v2,dc M w->aL M (λw=>p1 w v1) w->aL M (λw=>p2 w v2) w->Calls P f #[v1,v2] w (bu M p w)) (h1:Has ms G i x p1:=by exact hs) (h2:Has ms G i y p2:=by exact hs) (hp:Post G i p:=by exact pt rfl) (hf:aM P f:=by exactλ_ _=>by kernel_rfl):OpOk P ops ms c V A G i ⟨some d,.call ⟨.value (.func f),#[x,y],ts⟩,ty,pos,aZ,none⟩:=nZ hf h1 h2 hp hc
theorem Q4 (hφ:φ) {f:FuncId} {ts:Array TypeId} {p p1 p2:Pred} (hn:aB p) (hc:∀w v1 v2,p1 w v1->p2 w v2->Calls P f #[v1,v2] w (fu p w)) (h1:Has ms G i x p1:=by exact hg) (h2:Has ms G i y p2:=by exact hg) (hp:jX i G=some (qw φ p):=by exact rfl) (hf:aM P f:=by exactλ_ _=>by kernel_rfl):OpOk P ops ms c V A G i ⟨some d,.call ⟨.value (.func f),#[x,y],ts⟩,ty,pos,aZ,none⟩:=dn hf hn h1 h2 (VR hφ hp) hc
end
end Wx
