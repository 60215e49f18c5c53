import Derived.Test.YtadigiledciihaaGreatJRB11
namespace Wx
open Go Go.RowKit Go.Proofs
theorem Bq (a b:Bool) (m n:Nat):sg (a != b) (m*n)=sg a m*sg b n:=by
 cases a<;>cases b<;>simp[sg,Int.mul_neg,Int.neg_mul]
theorem wS (x y:Rat):x*y=cI (decide (x.num<0) != decide (y.num<0)) (x.num.natAbs*y.num.natAbs) (x.den*y.den):=by
 unfold cI
 rw[Rat.mul_def',Bq,tJ,tJ]
theorem IY (y:Rat) (hy:y.num≠0):y⁻¹=cI (decide (y.num<0)) y.den y.num.natAbs:=by
 rw[Rat.inv_def]
 generalize y.num=z at *
 generalize y.den=d
 unfold cI
 match z,hy with
 |Int.ofNat k,hy=>
  have:¬((Int.ofNat k)<0):=by have:=Int.natCast_nonneg k; exact Int.not_lt.2 this
  rw[decide_eq_false this]
  exact Rat.divInt_ofNat _ _
 |Int.negSucc k,hy=>
  have:(Int.negSucc k)<0:=Int.negSucc_lt_zero k
  rw[decide_eq_true this]
  show Rat.normalize (-(d:Int)) (k+1) (by omega)=mkRat (-(d:Int)) (k+1)
  rw[Rat.mkRat_def,dif_neg (by omega)]
theorem wE (x y:Rat) (hy:y.num≠0):x/y=cI (decide (x.num<0) != decide (y.num<0)) (x.num.natAbs*y.den) (x.den*y.num.natAbs):=by
 rw[Rat.div_def,IY y hy]
 conv=>lhs; rw[<-Rat.mkRat_self x]
 unfold cI
 rw[Rat.mkRat_mul_mkRat,Bq,tJ]
theorem GY (z:Int) (d:Nat):z*d=sg (decide (z<0)) (z.natAbs*d):=by
 have h:=Bq (decide (z<0)) false z.natAbs d
 rw[show(decide (z<0) != false)=decide (z<0) by cases decide (z<0)<;>rfl,tJ]at h
 rw[h]; rfl
theorem vZ (x y:Rat):x+y=mkRat (sg (decide (x.num<0)) (x.num.natAbs*y.den)+sg (decide (y.num<0)) (y.num.natAbs*x.den)) (x.den*y.den):=by
 rw[Rat.add_def',GY,GY]
theorem Nb (a:Bool) (m n:Nat):sg a m+sg a n=sg a (m+n):=by cases a<;>simp[sg]; omega
theorem JH (a:Bool) {m n:Nat} (h:n<=m):sg a m+sg (!a) n=sg a (m-n):=by cases a<;>simp[sg]<;>omega
theorem JI (a:Bool) {m n:Nat} (h:m<=n):sg a m+sg (!a) n=sg (!a) (n-m):=by cases a<;>simp[sg]<;>omega
theorem uB {a b:Bool} (h:¬a=b):b=!a:=by cases a<;>cases b<;>simp_all
theorem add_same (x y:Rat) (h:decide (x.num<0)=decide (y.num<0)):x+y=cI (decide (x.num<0)) (x.num.natAbs*y.den+y.num.natAbs*x.den) (x.den*y.den):=by
 rw[vZ,<-h,Nb]; rfl
theorem Ac (x y:Rat) (h:¬decide (x.num<0)=decide (y.num<0)) (hge:y.num.natAbs*x.den<=x.num.natAbs*y.den):x+y=cI (decide (x.num<0)) (x.num.natAbs*y.den-y.num.natAbs*x.den) (x.den*y.den):=by
 rw[vZ,uB h,JH _ hge]; rfl
theorem Ad (x y:Rat) (h:¬decide (x.num<0)=decide (y.num<0)) (hge:x.num.natAbs*y.den<=y.num.natAbs*x.den):x+y=cI (decide (y.num<0)) (y.num.natAbs*x.den-x.num.natAbs*y.den) (x.den*y.den):=by
 rw[vZ,uB h,JI _ hge]; rfl
variable {j k:Nat} {x y:Rat}
theorem cN.mul (h:cN j x) (g:cN k y):cN (j+k) (x*y):=by
 rw[wS]
 exact mE (Nat.mul_pos x.den_pos y.den_pos) (h.1.mul g.1) (h.2.mul g.2)
theorem cN.div (h:cN j x) (g:cN k y) (hy:y.num≠0):cN (j+k) (x/y):=by
 rw[wE _ _ hy]
 exact mE (Nat.mul_pos x.den_pos (by omega)) (h.1.mul g.2) (h.2.mul g.1)
end Wx

namespace Wx
def aR (n:Nat):Nat:=if n=0 then 0 else Nat.log2 n+1
theorem iy:aR 0=0:=rfl
variable {n:Nat}
theorem gY (h:0<n):0<aR n:=by unfold aR; rw[if_neg (by omega)]; omega
theorem lM (n:Nat):n<2^aR n:=by
 unfold aR
 split
 ·next h=>subst h; decide
 ·exact Nat.lt_log2_self
theorem jx (h:0<n):2^(aR n-1)<=n:=by
 unfold aR
 rw[if_neg (by omega)]
 exact Nat.log2_self_le (by omega)
variable {k:Nat}
theorem oh (h1:2^k<=n) (h2:n<2^(k+1)):aR n=k+1:=by
 have h0:0<n:=Nat.lt_of_lt_of_le (Nat.two_pow_pos k) h1
 have a1:=lM n
 have a2:=jx h0
 have a3:=gY h0
 have b1:k<aR n:=by
  rcases Nat.lt_or_ge k (aR n)with h|h
  ·exact h
  ·have:=Nat.pow_le_pow_right (show 0<2 by omega) h; omega
 have b2:aR n-1<k+1:=by
  rcases Nat.lt_or_ge (aR n-1) (k+1)with h|h
  ·exact h
  ·have:=Nat.pow_le_pow_right (show 0<2 by omega) h; omega
 omega
theorem AV (h:0<n):aR n=aR (n/2)+1:=by
 by_cases h1:n=1
 ·subst h1; decide
 ·have h2:0<n/2:=by omega
  have a:=lM (n/2)
  have b:=jx h2
  have c:=gY h2
  have e:=oh (n:=n) (k:=aR (n/2)) (by
   have:2^aR (n/2)=2*2^(aR (n/2)-1):=by
    rw[<-Nat.pow_succ']; congr 1; omega
   omega) (by rw[Nat.pow_succ]; omega)
  exact e
variable {m:Nat}
theorem uj {t low:Nat} (ht:0<t) (hl:low<2^k) (hm:m=low+2^k*t):aR m=k+aR t:=by
 have a:=lM t
 have b:=jx ht
 have c:=gY ht
 have e:=oh (n:=m) (k:=k+(aR t-1)) (by
  rw[Nat.pow_add,hm]
  have:=Nat.mul_le_mul_left (2^k) b
  omega) (by
  rw[show k+(aR t-1)+1=k+aR t by omega,Nat.pow_add,hm]
  have:=Nat.mul_le_mul_left (2^k) (Nat.succ_le_of_lt a)
  rw[Nat.mul_succ]at this
  omega)
 omega
theorem lK {j:Nat} (h:Bd j n):aR n<=j:=by
 rcases Nat.eq_zero_or_pos n with rfl|h0
 ·rw[iy]; omega
 ·have a:=jx h0
  have b:=gY h0
  rcases Nat.lt_or_ge j (aR n)with h'|h'
  ·have:=Nat.pow_le_pow_right (show 0<2 by omega) (show j<=aR n-1 by omega)
   unfold Bd at h
   omega
  ·exact h'
theorem yZ (h:aR m<aR n):m<n:=by
 have a:=lM m
 have b:0<n:=by
  rcases Nat.eq_zero_or_pos n with rfl|h0
  ·rw[iy]at h; omega
  ·exact h0
 have c:=jx b
 have:=Nat.pow_le_pow_right (show 0<2 by omega) (show aR m<=aR n-1 by omega)
 omega
variable {a b:Nat}
theorem za (hb:0<b):a<b*2^(aR a-aR b+1):=by
 have h1:=lM a
 have h2:=jx hb
 have h3:=gY hb
 have h4:2^aR a<=2^((aR b-1)+(aR a-aR b+1)):=Nat.pow_le_pow_right (by omega) (by omega)
 rw[Nat.pow_add]at h4
 have h5:=Nat.mul_le_mul_right (2^(aR a-aR b+1)) h2
 omega
variable {A i:Nat}
theorem DB {Q:Nat} (hA:A=Q*b+a) (ha:a<b*2^(i+1)) (hQ:2^(i+1) ∣ Q):
  (b*2^i<=a->A=(Q+2^i)*b+(a-b*2^i)/\a-b*2^i<b*2^i/\2^i ∣ Q+2^i)/\(a<b*2^i->2^i ∣ Q):=by
 have hd:2^i ∣ Q:=Nat.dvd_trans (Nat.pow_dvd_pow 2 (by omega)) hQ
 refine⟨λh=>⟨?_,?_,Nat.dvd_add hd (Nat.dvd_refl _)⟩,λ_=>hd⟩
 ·rw[Nat.add_mul,Nat.mul_comm (2^i) b]; omega
 ·rw[Nat.pow_succ,<-Nat.mul_assoc]at ha; omega
theorem yD (b i:Nat):b*2^(i+1)/2=b*2^i:=by
 rw[Nat.pow_succ,<-Nat.mul_assoc,Nat.mul_div_cancel _ (by omega)]
variable {x:Nat}
theorem EU (hx:x<4294967296) (hk:k<32) (hd:2^(k+1) ∣ x):x+2^k<4294967296:=by
 obtain⟨y,rfl⟩:=hd
 have e:4294967296=2^(k+1)*2^(31-k):=by rw[<-Nat.pow_add,show k+1+(31-k)=32 by omega]
 have h1:y<2^(31-k):=by
  rw[e]at hx
  exact Nat.lt_of_mul_lt_mul_left hx
 have h2:=Nat.mul_le_mul_left (2^(k+1)) (Nat.succ_le_of_lt h1)
 rw[Nat.mul_succ,<-e]at h2
 have h3:2^k<2^(k+1):=Nat.pow_lt_pow_right (by omega) (by omega)
 omega
variable {l:List Nat} {v:Nat}
theorem Hq (hw:Wf 4294967296 l) (hd:2^(i+1) ∣ val 4294967296 l) (h:l[i/32]?=some v):2^(i%32+1) ∣ v:=by
 obtain⟨hi,hv⟩:=List.getElem?_eq_some_iff.1 h
 have e:=bG 4294967296 l (i/32) (by omega)
 rw[jM 4294967296 l (i/32) hi,hv]at e
 have hp:(4294967296:Nat)^(i/32)=2^(32*(i/32)):=by rw[Nat.pow_mul]
 have hi':i+1=32*(i/32)+(i%32+1):=by omega
 have Dm:=eW (hw.take (i/32))
 rw[List.length_take,Nat.min_eq_left (by omega),hp]at Dm
 rw[hp]at e
 have h1:2^(32*(i/32)) ∣ val 4294967296 l:=Nat.dvd_trans (Nat.pow_dvd_pow 2 (by omega)) hd
 have h0:val 4294967296 (l.take (i/32))=0:=by
  rw[e]at h1
  have:=(Nat.dvd_add_left (Nat.dvd_mul_right _ _)).1 h1
  exact Nat.eq_zero_of_dvd_of_lt this Dm
 rw[e,h0,Nat.zero_add,hi',Nat.pow_add]at hd
 have h2:=Nat.dvd_of_mul_dvd_mul_left (Nat.two_pow_pos _) hd
 refine(Nat.dvd_add_left (Nat.dvd_trans ?_ (Nat.dvd_mul_right _ _))).1 h2
 have:(4294967296:Nat)=2^32:=by decide
 rw[this]
 exact Nat.pow_dvd_pow 2 (by omega)
theorem JG (h:l[i/32]?=some v):val 4294967296 (l.set (i/32) (v+2^(i%32)))=val 4294967296 l+2^i:=by
 have h1:=mG (b:=4294967296) h (v+2^(i%32))
 have hp:(4294967296:Nat)^(i/32)=2^(32*(i/32)):=by rw[Nat.pow_mul]
 have e:2^i=2^(32*(i/32))*2^(i%32):=by rw[<-Nat.pow_add]; congr 1; omega
 rw[Nat.mul_add,hp,<-e]at h1
 omega
theorem Dl {d D:Nat} (hd:D%2=d):(x+4294967296*D)/2=(x/2+2147483648*d)+4294967296*(D/2):=by omega
variable {r:Nat}
theorem Fa (hk:0<k):(A*10^k+r)%10=r%10/\(A*10^k+r)/10=A*10^(k-1)+r/10:=by
 obtain⟨j,rfl⟩:∃j,k=j+1:=⟨k-1,by omega⟩
 rw[Nat.pow_succ,<-Nat.mul_assoc,Nat.add_sub_cancel]
 omega
theorem vI (hk:0<k) (h:r<10^k):r/10<10^(k-1):=by
 obtain⟨j,rfl⟩:∃j,k=j+1:=⟨k-1,by omega⟩
 rw[Nat.pow_succ]at h
 rw[Nat.add_sub_cancel]
 omega
end Wx

namespace Wx
open Go Go.RowKit Go.Proofs
def ah:Nat:=4294967296
theorem qU:ah=2^32:=by unfold ah; decide
theorem aj:2<=ah:=by unfold ah; omega
variable {n:Nat}
theorem oc {k:Nat} (h:Bd k n):(ae ah n).length<=k/32+1:=by rw[qU]; exact h.ae (by omega)
theorem ko:(Tryz.prog.info? 146).map (λi=>(i.zero,i.size,decide (i.bytes<=8)))=some (some (.int .u32 0),1,true):=by kernel_rfl
theorem zb (w:World) (A:Option Addr) (c:Nat) (l:List Nat) (h:Rd w .u32 A c l):
  Calls Tryz.prog 106 #[.slice A l.length c] w (BJ w A c l):=by
 obtain⟨hl,hm,hcell⟩:=h
 unfold maxLen at hm
 go_enter Tryz.func106,Tryz.ntmps106
 go_wp2
 go_loop [3] (λv=>∃n:Nat,n<=l.length/\v=.int .i64 n/\(∀b,val b (l.take n)=val b l)) (λv=>(RowKit.intOf v).toNat)
 case atStart=>exact⟨l.length,Nat.le_refl _,rfl,λb=>by rw[List.take_length]⟩
 case round=>
  obtain⟨n,hn,rfl,hv⟩:=hrel
  have HV:=Lib.hid hv
  clear hv
  rcases Nat.eq_zero_or_pos n with rfl|hpos
  ·go_wp2
   go_ret
   exact⟨0,hn,rfl,rfl,nI.nil,HV.out⟩
  ·obtain⟨b,o,rfl,hc⟩:=hcell (by rintro rfl; simp at hn; omega)
   have qn:=hc (n-1) (by omega)
   clear hc hcell
   obtain⟨x,hx⟩:∃x,x=l.getD (n-1) 0:=⟨_,rfl⟩
   rw[<-hx]at qn
   have HX:=Lib.hid hx
   clear hx
   obtain⟨k,rfl⟩:∃k,n=k+1:=⟨n-1,by omega⟩
   rw[Nat.add_sub_cancel]at qn HX
   rcases Nat.eq_zero_or_pos x with rfl|h0
   ·go_wp2
    go_round
    case rel=>exact⟨k,by omega,by go_num,λb=>by rw[vL (by omega) HX.out.symm]; exact HV.out b⟩
    case measure=>simp[RowKit.intOf]
   ·have TB:((x:Int)==0)=false:=beq_eq_false_iff_ne.2 (by omega)
    go_wp2
    go_ret
    exact⟨k+1,hn,rfl,rfl,Hh (l:=l) (n:=k) (by omega) (by have:=HX.out; omega),HV.out⟩
theorem om (w:World) (A:Option Addr) (c:Nat) (l:List Nat) (n:Nat) (h:Rd w .u32 A c l) (hw:Wf ah l) (L:Nat) (hL:l.length=L) (hn:val ah l=n):
  Calls Tryz.prog 106 #[.slice A L c] w (BP .u32 ah w n):=by
 subst hL
 refine(zb w A c l h).mono λe w' ⟨k,hk,he,hw',ht,hv⟩=>⟨hw',_,he,?_⟩
 rw[<-hn,<-hv ah]
 exact aZ.of aj (h.take k) (by rw[List.length_take]; omega) (hw.take k) ht
def mc (w:World) (n:Nat) (e:Ending) (w':World):Prop:=∃g L c,w.heap.size<=g/\e=.returned (.slice (some ⟨g,0,none⟩) L c)/\aZ .u32 ah w' (.slice (some ⟨g,0,none⟩) L c) n/\Below w.heap.size w w'
theorem mc.num {w:World} {e:Ending} {w':World} (h:mc w n e w'):dS .u32 ah w n e w':=by
 obtain⟨g,L,c,_,he,hn,hb⟩:=h
 exact⟨_,he,hn,hb⟩
theorem pH (w:World) (A:Option Addr) (c:Nat) (l:List Nat) (n:Nat) (h:Rd w .u32 A c l) (hw:Wf ah l) (L:Nat) (hL:l.length=L) (hn:val ah l=n):
  Calls Tryz.prog 106 #[.slice A L c] w (λe w'=>w=w'/\∃k,e=.returned (.slice A k c)/\aZ .u32 ah w (.slice A k c) n):=by
 subst hL
 refine(zb w A c l h).mono λe w' ⟨k,hk,he,hw',ht,hv⟩=>⟨hw',_,he,?_⟩
 rw[<-hn,<-hv ah]
 exact aZ.of aj (h.take k) (by rw[List.length_take]; omega) (hw.take k) ht
theorem eP (w:World) (n:Nat) (hn:n<b64):Calls Tryz.prog 69 #[.int .u64 (n:Int)] w (dS .u32 ah w n):=by
 have e1:(n:Int)%4294967296=((n%ah:Nat):Int):=by unfold ah; omega
 have e2:IntKind.u64.wrap ((n:Int)/4294967296)%4294967296=((n/ah:Nat):Int):=by
  unfold b64 at hn
  rw[wrap_u64 (by omega) (by omega)]; unfold ah; omega
 have hw:Wf ah [n%ah,n/ah]:=Wf.cons (Nat.mod_lt _ (by unfold ah; omega)) (Wf.cons (by unfold ah; unfold b64 at hn; omega) (Wf.nil _))
 have hv:val ah [n%ah,n/ah]=n:=by simp[val]; exact Nat.mod_add_div _ _
 have E1:=Lib.hid e1
 have E2:=Lib.hid e2
 have HV:=Lib.hid hv
 clear e1 e2 hv hn
 go_enter Tryz.func69,Tryz.ntmps69
 go_wp2_with fail
 rw[E1.out,E2.out]
 have hR:Row (w.alloc (.cells #[.int .u32 ((n%ah:Nat):Int),.int .u32 ((n/ah:Nat):Int)] 146)) .u32 146 w.heap.size [n%ah,n/ah]:=Row.new w .u32 146 [n%ah,n/ah]
 refine(om _ _ _ [n%ah,n/ah] n (hR.dV (Nat.le_refl _) (by simp[maxLen])) hw _ rfl HV.out).mono ?_
 rintro e w' ⟨rfl,v,rfl,hv⟩
 go_wp2
 go_ret
 exact⟨v,rfl,hv,(Below.refl _ _).alloc (Nat.le_refl _) _⟩
end Wx

namespace Wx
open Go Go.RowKit Go.Proofs
set_option maxHeartbeats 400000 in
theorem Gr (w:World) (v1 v2:Value) (m n:Nat) (h1:aZ .u32 ah w v1 m) (h2:aZ .u32 ah w v2 n):
  Calls Tryz.prog 90 #[v1,v2] w (xN w (.int .i64 (bf m n))):=by
 obtain⟨A,c,rfl,ha⟩:=h1
 obtain⟨B,d,rfl,hb⟩:=h2
 have hla:=ha.len
 have hlb:=hb.len
 by_cases hlt:(ae ah m).length<(ae ah n).length
 ·have hmn:=bX aj hlt
  have e:bf m n = -1:=by unfold bf; rw[if_pos hmn]
  rw[e]
  go_enter Tryz.func90,Tryz.ntmps90
  go_wp2
  all_goals (go_ret; exact⟨rfl,0,rfl⟩)
 ·by_cases hgt:(ae ah n).length<(ae ah m).length
  ·have hmn:=bX aj hgt
   have e:bf m n=1:=by unfold bf; rw[if_neg (by omega),if_pos hmn]
   rw[e]
   go_enter Tryz.func90,Tryz.ntmps90
   go_wp2
   all_goals (go_ret; exact⟨rfl,0,rfl⟩)
  ·have H6:(ae ah m).length=(ae ah n).length:=by omega
   have wa:=bq aj m
   have wb:=bq aj n
   have va:=aV aj m
   have vb:=aV aj n
   generalize ae ah m=a at *
   generalize ae ah n=b at *
   rw[<-H6]at hlb ⊢
   have HL:=Lib.hid H6
   have VA:=Lib.hid va
   have VB:=Lib.hid vb
   clear H6 va vb hlt hgt hlb
   go_enter Tryz.func90,Tryz.ntmps90
   go_wp2
   go_loopw [5] (λs5 wr=>∃i:Nat,i<=a.length/\s5=.int .i64 ((i:Int)-1)/\a.drop i=b.drop i/\∃q,wr=w.drewN q)
    (λs5 _=>(RowKit.intOf s5+1).toNat)
   case atStart=>exact⟨a.length,Nat.le_refl _,rfl,by rw[List.drop_of_length_le (Nat.le_refl _),List.drop_of_length_le (by have:=HL.out; omega)],0,rfl⟩
   case round=>
    obtain⟨i,hi,rfl,hd,q,rfl⟩:=hrel
    have HD:=Lib.hid hd
    clear hd
    rcases Nat.eq_zero_or_pos i with rfl|hpos
    ·rw[show(((0:Nat):Int)-1) = -1 by omega]
     have:a=b:=by simpa using HD.out
     have e:m=n:=by rw[<-VA.out,<-VB.out,this]
     have e0:bf m n=0:=by unfold bf; rw[if_neg (by omega),if_neg (by omega)]
     have E0:=Lib.hid e0
     clear e e0 this
     go_wp2
     go_ret
     exact⟨fZ E0.out.symm,_,rfl⟩
    ·obtain⟨j,rfl⟩:∃j,i=j+1:=⟨i-1,by omega⟩
     obtain⟨b1,o1,x,rfl,uS,HX⟩:=ha.get (i:=j) (by omega)
     obtain⟨b2,o2,y,rfl,Fv,HY⟩:=hb.get (i:=j) (by have:=HL.out; omega)
     rw[show(((j+1:Nat):Int)-1)=(j:Int) by omega]
     have R9:(0:Int)<=(j:Int):=by omega
     have ct:(j:Int)<(a.length:Int):=by omega
     rcases Nat.lt_trichotomy x y with hxy|hxy|hxy
     ·have Mp:(x:Int)<(y:Int):=by omega
      have hmn:m<n:=by
       rw[<-VA.out,<-VB.out]
       exact kF wa HX.out HY.out HD.out hxy
      have E0:Hid (bf m n = -1):=by show bf m n = -1; unfold bf; rw[if_pos hmn]
      clear hmn
      go_wp2
      go_quiet (fail)
      go_wp2
      go_ret
      exact⟨fZ E0.out.symm,_,World.drewN_drewN _ _ _⟩
     ·subst hxy
      go_wp2
      go_quiet (fail)
      go_wp2
      go_quiet (fail)
      go_wp2
      go_roundw
      case rel=>exact⟨j,by omega,by go_num,yq HX.out HY.out HD.out,_,rfl⟩
      case measure=>simp[RowKit.intOf]
     ·have Mp:(y:Int)<(x:Int):=by omega
      have hmn:n<m:=by
       rw[<-VA.out,<-VB.out]
       exact kF wb HY.out HX.out HD.out.symm hxy
      have E0:Hid (bf m n=1):=by show bf m n=1; unfold bf; rw[if_neg (by omega),if_pos hmn]
      clear hmn
      go_wp2
      go_quiet (fail)
      go_wp2
      go_quiet (fail)
      go_wp2
      go_ret
      exact⟨fZ E0.out.symm,_,(World.drewN_drewN _ _ _).trans (World.drewN_drewN _ _ _)⟩
theorem er (w:World) (v1 v2:Value) (m n:Nat) (h1:aZ .u32 ah w v1 m) (h2:aZ .u32 ah w v2 n):
  Calls Tryz.prog 90 #[v1,v2] w (cP w (.int .i64 (bf m n))):=(Gr w v1 v2 m n h1 h2).mono λ_ _ h=>h.is
end Wx
