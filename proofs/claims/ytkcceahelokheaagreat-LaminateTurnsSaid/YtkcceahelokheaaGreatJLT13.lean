import Derived.Test.YtkcceahelokheaaGreatJLT10
namespace Wx
open Go Go.RowKit Go.Proofs
theorem Jg (a b:Bool) (m n:Nat):sg (a != b) (m*n)=sg a m*sg b n:=by
 cases a<;>cases b<;>simp[sg,Int.mul_neg,Int.neg_mul]
theorem Ku (x y:Rat):x*y=gh (decide (x.num<0) != decide (y.num<0)) (x.num.natAbs*y.num.natAbs) (x.den*y.den):=by
 unfold gh
 rw[Rat.mul_def',Jg,Ai,Ai]
theorem RU (y:Rat) (hy:y.num≠0):y⁻¹=gh (decide (y.num<0)) y.den y.num.natAbs:=by
 rw[Rat.inv_def]
 generalize y.num=z at *
 generalize y.den=d
 unfold gh
 match z,hy with
 |Int.ofNat k,hy=>
  have:¬((Int.ofNat k)<0):=by have:=Int.natCast_nonneg k; exact Int.not_lt.2 this
  rw[decide_eq_false this]
  exact Rat.divInt_ofNat _ _
 |Int.negSucc k,hy=>
  have:(Int.negSucc k)<0:=Int.negSucc_lt_zero k
  rw[decide_eq_true this]
  show Rat.normalize (-(d:Int)) (k+1) (by omega)=mkRat (-(d:Int)) (k+1)
  rw[Rat.mkRat_def,dif_neg (by omega)]
theorem J1 (x y:Rat) (hy:y.num≠0):x/y=gh (decide (x.num<0) != decide (y.num<0)) (x.num.natAbs*y.den) (x.den*y.num.natAbs):=by
 rw[Rat.div_def,RU y hy]
 conv=>lhs; rw[<-Rat.mkRat_self x]
 unfold gh
 rw[Rat.mkRat_mul_mkRat,Jg,Ai]
theorem Qm (z:Int) (d:Nat):z*d=sg (decide (z<0)) (z.natAbs*d):=by
 have h:=Jg (decide (z<0)) false z.natAbs d
 rw[show(decide (z<0) != false)=decide (z<0) by cases decide (z<0)<;>rfl,Ai]at h
 rw[h]; rfl
theorem CO (x y:Rat):x+y=mkRat (sg (decide (x.num<0)) (x.num.natAbs*y.den)+sg (decide (y.num<0)) (y.num.natAbs*x.den)) (x.den*y.den):=by
 rw[Rat.add_def',Qm,Qm]
theorem WA (a:Bool) (m n:Nat):sg a m+sg a n=sg a (m+n):=by cases a<;>simp[sg]; omega
theorem SZ (a:Bool) {m n:Nat} (h:n<=m):sg a m+sg (!a) n=sg a (m-n):=by cases a<;>simp[sg]<;>omega
theorem S0 (a:Bool) {m n:Nat} (h:m<=n):sg a m+sg (!a) n=sg (!a) (n-m):=by cases a<;>simp[sg]<;>omega
theorem Bz {a b:Bool} (h:¬a=b):b=!a:=by cases a<;>cases b<;>simp_all
theorem add_same (x y:Rat) (h:decide (x.num<0)=decide (y.num<0)):x+y=gh (decide (x.num<0)) (x.num.natAbs*y.den+y.num.natAbs*x.den) (x.den*y.den):=by
 rw[CO,<-h,WA]; rfl
theorem GL (x y:Rat) (h:¬decide (x.num<0)=decide (y.num<0)) (hge:y.num.natAbs*x.den<=x.num.natAbs*y.den):x+y=gh (decide (x.num<0)) (x.num.natAbs*y.den-y.num.natAbs*x.den) (x.den*y.den):=by
 rw[CO,Bz h,SZ _ hge]; rfl
theorem GM (x y:Rat) (h:¬decide (x.num<0)=decide (y.num<0)) (hge:x.num.natAbs*y.den<=y.num.natAbs*x.den):x+y=gh (decide (y.num<0)) (y.num.natAbs*x.den-x.num.natAbs*y.den) (x.den*y.den):=by
 rw[CO,Bz h,S0 _ hge]; rfl
variable {j k:Nat} {x y:Rat}
theorem aZ.mul (h:aZ j x) (g:aZ k y):aZ (j+k) (x*y):=by
 rw[Ku]
 exact l5 (Nat.mul_pos x.den_pos y.den_pos) (h.1.mul g.1) (h.2.mul g.2)
theorem aZ.div (h:aZ j x) (g:aZ k y) (hy:y.num≠0):aZ (j+k) (x/y):=by
 rw[J1 _ _ hy]
 exact l5 (Nat.mul_pos x.den_pos (by omega)) (h.1.mul g.2) (h.2.mul g.1)
theorem aZ.neg (h:aZ j x):aZ j (-x):=⟨by rw[Rat.neg_num,Int.natAbs_neg]; exact h.1,h.2⟩
theorem aZ.add (h:aZ j x) (g:aZ k y):aZ (j+k+j+k+1) (x+y):=by
 have a:=h.1.mul g.2
 have b:=g.1.mul h.2
 have d:=h.2.mul g.2
 have hd:=Nat.mul_pos x.den_pos y.den_pos
 have ab:Bd (j+k+j+k+1) (x.num.natAbs*y.den+y.num.natAbs*x.den):=(a.add b).mono (by omega)
 have d':Bd (j+k+j+k+1) (x.den*y.den):=d.mono (by omega)
 by_cases hs:decide (x.num<0)=decide (y.num<0)
 ·rw[add_same x y hs]; exact l5 hd ab d'
 ·by_cases hge:y.num.natAbs*x.den<=x.num.natAbs*y.den
  ·rw[GL x y hs hge]; exact l5 hd (ab.le (by omega)) d'
  ·rw[GM x y hs (by omega)]; exact l5 hd (ab.le (by omega)) d'
end Wx

namespace Wx
def bB (n:Nat):Nat:=if n=0 then 0 else Nat.log2 n+1
theorem mF:bB 0=0:=rfl
variable {n:Nat}
theorem mc (h:0<n):0<bB n:=by unfold bB; rw[if_neg (by omega)]; omega
theorem qW (n:Nat):n<2^bB n:=by
 unfold bB
 split
 ·next h=>subst h; decide
 ·exact Nat.lt_log2_self
theorem oN (h:0<n):2^(bB n-1)<=n:=by
 unfold bB
 rw[if_neg (by omega)]
 exact Nat.log2_self_le (by omega)
variable {k:Nat}
theorem uK (h1:2^k<=n) (h2:n<2^(k+1)):bB n=k+1:=by
 have h0:0<n:=Nat.lt_of_lt_of_le (Nat.two_pow_pos k) h1
 have a1:=qW n
 have a2:=oN h0
 have a3:=mc h0
 have b1:k<bB n:=by
  rcases Nat.lt_or_ge k (bB n)with h|h
  ·exact h
  ·have:=Nat.pow_le_pow_right (show 0<2 by omega) h; omega
 have b2:bB n-1<k+1:=by
  rcases Nat.lt_or_ge (bB n-1) (k+1)with h|h
  ·exact h
  ·have:=Nat.pow_le_pow_right (show 0<2 by omega) h; omega
 omega
theorem IG (h:0<n):bB n=bB (n/2)+1:=by
 by_cases h1:n=1
 ·subst h1; decide
 ·have h2:0<n/2:=by omega
  have a:=qW (n/2)
  have b:=oN h2
  have c:=mc h2
  have e:=uK (n:=n) (k:=bB (n/2)) (by
   have:2^bB (n/2)=2*2^(bB (n/2)-1):=by
    rw[<-Nat.pow_succ']; congr 1; omega
   omega) (by rw[Nat.pow_succ]; omega)
  exact e
variable {m:Nat}
theorem AZ {t low:Nat} (ht:0<t) (hl:low<2^k) (hm:m=low+2^k*t):bB m=k+bB t:=by
 have a:=qW t
 have b:=oN ht
 have c:=mc ht
 have e:=uK (n:=m) (k:=k+(bB t-1)) (by
  rw[Nat.pow_add,hm]
  have:=Nat.mul_le_mul_left (2^k) b
  omega) (by
  rw[show k+(bB t-1)+1=k+bB t by omega,Nat.pow_add,hm]
  have:=Nat.mul_le_mul_left (2^k) (Nat.succ_le_of_lt a)
  rw[Nat.mul_succ]at this
  omega)
 omega
theorem qV {j:Nat} (h:Bd j n):bB n<=j:=by
 rcases Nat.eq_zero_or_pos n with rfl|h0
 ·rw[mF]; omega
 ·have a:=oN h0
  have b:=mc h0
  rcases Nat.lt_or_ge j (bB n)with h'|h'
  ·have:=Nat.pow_le_pow_right (show 0<2 by omega) (show j<=bB n-1 by omega)
   unfold Bd at h
   omega
  ·exact h'
theorem Fz (h:bB m<bB n):m<n:=by
 have a:=qW m
 have b:0<n:=by
  rcases Nat.eq_zero_or_pos n with rfl|h0
  ·rw[mF]at h; omega
  ·exact h0
 have c:=oN b
 have:=Nat.pow_le_pow_right (show 0<2 by omega) (show bB m<=bB n-1 by omega)
 omega
variable {a b:Nat}
theorem FA (hb:0<b):a<b*2^(bB a-bB b+1):=by
 have h1:=qW a
 have h2:=oN hb
 have h3:=mc hb
 have h4:2^bB a<=2^((bB b-1)+(bB a-bB b+1)):=Nat.pow_le_pow_right (by omega) (by omega)
 rw[Nat.pow_add]at h4
 have h5:=Nat.mul_le_mul_right (2^(bB a-bB b+1)) h2
 omega
variable {i:Nat}
theorem Mh {A Q:Nat} (hA:A=Q*b+a) (ha:a<b*2^(i+1)) (hQ:2^(i+1) ∣ Q):
  (b*2^i<=a->A=(Q+2^i)*b+(a-b*2^i)/\a-b*2^i<b*2^i/\2^i ∣ Q+2^i)/\(a<b*2^i->2^i ∣ Q):=by
 have hd:2^i ∣ Q:=Nat.dvd_trans (Nat.pow_dvd_pow 2 (by omega)) hQ
 refine⟨λh=>⟨?_,?_,Nat.dvd_add hd (Nat.dvd_refl _)⟩,λ_=>hd⟩
 ·rw[Nat.add_mul,Nat.mul_comm (2^i) b]; omega
 ·rw[Nat.pow_succ,<-Nat.mul_assoc]at ha; omega
theorem Fc (b i:Nat):b*2^(i+1)/2=b*2^i:=by
 rw[Nat.pow_succ,<-Nat.mul_assoc,Nat.mul_div_cancel _ (by omega)]
variable {x:Nat}
theorem N3 (hx:x<4294967296) (hk:k<32) (hd:2^(k+1) ∣ x):x+2^k<4294967296:=by
 obtain⟨y,rfl⟩:=hd
 have e:4294967296=2^(k+1)*2^(31-k):=by rw[<-Nat.pow_add,show k+1+(31-k)=32 by omega]
 have h1:y<2^(31-k):=by
  rw[e]at hx
  exact Nat.lt_of_mul_lt_mul_left hx
 have h2:=Nat.mul_le_mul_left (2^(k+1)) (Nat.succ_le_of_lt h1)
 rw[Nat.mul_succ,<-e]at h2
 have h3:2^k<2^(k+1):=Nat.pow_lt_pow_right (by omega) (by omega)
 omega
variable {l:List Nat} {v:Nat}
theorem QJ (hw:Wf 4294967296 l) (hd:2^(i+1) ∣ val 4294967296 l) (h:l[i/32]?=some v):2^(i%32+1) ∣ v:=by
 obtain⟨hi,hv⟩:=List.getElem?_eq_some_iff.1 h
 have e:=cD 4294967296 l (i/32) (by omega)
 rw[o8 4294967296 l (i/32) hi,hv]at e
 have hp:(4294967296:Nat)^(i/32)=2^(32*(i/32)):=by rw[Nat.pow_mul]
 have hi':i+1=32*(i/32)+(i%32+1):=by omega
 have LS:=kI (hw.take (i/32))
 rw[List.length_take,Nat.min_eq_left (by omega),hp]at LS
 rw[hp]at e
 have h1:2^(32*(i/32)) ∣ val 4294967296 l:=Nat.dvd_trans (Nat.pow_dvd_pow 2 (by omega)) hd
 have h0:val 4294967296 (l.take (i/32))=0:=by
  rw[e]at h1
  have:=(Nat.dvd_add_left (Nat.dvd_mul_right _ _)).1 h1
  exact Nat.eq_zero_of_dvd_of_lt this LS
 rw[e,h0,Nat.zero_add,hi',Nat.pow_add]at hd
 have h2:=Nat.dvd_of_mul_dvd_mul_left (Nat.two_pow_pos _) hd
 refine(Nat.dvd_add_left (Nat.dvd_trans ?_ (Nat.dvd_mul_right _ _))).1 h2
 have:(4294967296:Nat)=2^32:=by decide
 rw[this]
 exact Nat.pow_dvd_pow 2 (by omega)
theorem SY (h:l[i/32]?=some v):val 4294967296 (l.set (i/32) (v+2^(i%32)))=val 4294967296 l+2^i:=by
 have h1:=r8 (b:=4294967296) h (v+2^(i%32))
 have hp:(4294967296:Nat)^(i/32)=2^(32*(i/32)):=by rw[Nat.pow_mul]
 have e:2^i=2^(32*(i/32))*2^(i%32):=by rw[<-Nat.pow_add]; congr 1; omega
 rw[Nat.mul_add,hp,<-e]at h1
 omega
theorem LN {d D:Nat} (hd:D%2=d):(x+4294967296*D)/2=(x/2+2147483648*d)+4294967296*(D/2):=by omega
end Wx

namespace Wx
open Go Go.RowKit Go.Proofs
def aP:Nat:=4294967296
theorem xZ:aP=2^32:=by unfold aP; decide
theorem aI:2<=aP:=by unfold aP; omega
theorem zE {k n:Nat} (h:Bd k n):(af aP n).length<=k/32+1:=by rw[xZ]; exact h.af (by omega)
theorem tr:(Tryz.prog.info? 270).map (λi=>(i.zero,i.size,decide (i.bytes<=8)))=some (some (.int .u32 0),1,true):=by kernel_rfl
theorem FB (w:World) (A:Option Addr) (c:Nat) (l:List Nat) (h:Rd w .u32 A c l):
  Calls Tryz.prog 182 #[.slice A l.length c] w (JG w A c l):=by
 obtain⟨hl,hm,hcell⟩:=h
 unfold maxLen at hm
 go_enter Tryz.func182,Tryz.ntmps182
 go_wp2
 go_loop [3] (λv=>∃n:Nat,n<=l.length/\v=.int .i64 n/\(∀b,val b (l.take n)=val b l)) (λv=>(intOf v).toNat)
 case atStart=>exact⟨l.length,Nat.le_refl _,rfl,λb=>by rw[List.take_length]⟩
 case round=>
  obtain⟨n,hn,rfl,hv⟩:=hrel
  have HV:=Lib.hid hv
  clear hv
  rcases Nat.eq_zero_or_pos n with rfl|hpos
  ·go_wp2
   go_ret
   exact⟨0,hn,rfl,rfl,tR.nil,HV.out⟩
  ·obtain⟨b,o,rfl,hc⟩:=hcell (by rintro rfl; simp at hn; omega)
   have uw:=hc (n-1) (by omega)
   clear hc hcell
   obtain⟨x,hx⟩:∃x,x=l.getD (n-1) 0:=⟨_,rfl⟩
   rw[<-hx]at uw
   have HX:=Lib.hid hx
   clear hx
   obtain⟨k,rfl⟩:∃k,n=k+1:=⟨n-1,by omega⟩
   rw[Nat.add_sub_cancel]at uw HX
   rcases Nat.eq_zero_or_pos x with rfl|h0
   ·go_wp2
    go_round
    case rel=>exact⟨k,by omega,by go_num,λb=>by rw[Cs (by omega) HX.out.symm]; exact HV.out b⟩
    case measure=>simp[intOf]
   ·have h0':((x:Int)==0)=false:=beq_eq_false_iff_ne.2 (by omega)
    go_wp2
    go_ret
    exact⟨k+1,hn,rfl,rfl,QD (l:=l) (n:=k) (by omega) (by have:=HX.out; omega),HV.out⟩
theorem zJ (w:World) (A:Option Addr) (c:Nat) (l:List Nat) (n:Nat) (h:Rd w .u32 A c l) (hw:Wf aP l) (L:Nat) (hL:l.length=L) (hn:val aP l=n):
  Calls Tryz.prog 182 #[.slice A L c] w (JJ .u32 aP w n):=by
 subst hL
 refine(FB w A c l h).mono λe w' ⟨k,hk,he,hw',ht,hv⟩=>⟨hw',_,he,?_⟩
 rw[<-hn,<-hv aP]
 exact bQ.of aI (h.take k) (by rw[List.length_take]; omega) (hw.take k) ht
def xU (w:World) (n:Nat) (e:Ending) (w':World):Prop:=∃g L c,w.heap.size<=g/\e=.returned (.slice (some ⟨g,0,none⟩) L c)/\bQ .u32 aP w' (.slice (some ⟨g,0,none⟩) L c) n/\Below w.heap.size w w'
theorem wB (w:World) (A:Option Addr) (c:Nat) (l:List Nat) (n:Nat) (h:Rd w .u32 A c l) (hw:Wf aP l) (L:Nat) (hL:l.length=L) (hn:val aP l=n):
  Calls Tryz.prog 182 #[.slice A L c] w (λe w'=>w=w'/\∃k,e=.returned (.slice A k c)/\bQ .u32 aP w (.slice A k c) n):=by
 subst hL
 refine(FB w A c l h).mono λe w' ⟨k,hk,he,hw',ht,hv⟩=>⟨hw',_,he,?_⟩
 rw[<-hn,<-hv aP]
 exact bQ.of aI (h.take k) (by rw[List.length_take]; omega) (hw.take k) ht
theorem nC (w:World) (n:Nat) (hn:n<b64):Calls Tryz.prog 158 #[.int .u64 (n:Int)] w (jR .u32 aP w n):=by
 have e1:(n:Int)%4294967296=((n%aP:Nat):Int):=by unfold aP; omega
 have e2:IntKind.u64.wrap ((n:Int)/4294967296)%4294967296=((n/aP:Nat):Int):=by
  unfold b64 at hn
  rw[wrap_u64 (by omega) (by omega)]; unfold aP; omega
 have hw:Wf aP [n%aP,n/aP]:=Wf.cons (Nat.mod_lt _ (by unfold aP; omega)) (Wf.cons (by unfold aP; unfold b64 at hn; omega) (Wf.nil _))
 have hv:val aP [n%aP,n/aP]=n:=by simp[val]; exact Nat.mod_add_div _ _
 have E1:=Lib.hid e1
 have E2:=Lib.hid e2
 have HV:=Lib.hid hv
 clear e1 e2 hv hn
 go_enter Tryz.func158,Tryz.ntmps158
 go_wp2_with fail
 rw[E1.out,E2.out]
 have hR:Row (w.alloc (.cells #[.int .u32 ((n%aP:Nat):Int),.int .u32 ((n/aP:Nat):Int)] 270)) .u32 270 w.heap.size [n%aP,n/aP]:=Row.new w .u32 270 [n%aP,n/aP]
 refine(zJ _ _ _ [n%aP,n/aP] n (hR.gL (Nat.le_refl _) (by simp[maxLen])) hw _ rfl HV.out).mono ?_
 rintro e w' ⟨rfl,v,rfl,hv⟩
 go_wp2
 go_ret
 exact⟨v,rfl,hv,(Below.refl _ _).alloc (Nat.le_refl _) _⟩
end Wx

namespace Wx
open Go Go.RowKit Go.Proofs
set_option maxHeartbeats 400000 in
theorem PV (w:World) (v1 v2:Value) (m n:Nat) (h1:bQ .u32 aP w v1 m) (h2:bQ .u32 aP w v2 n):
  Calls Tryz.prog 180 #[v1,v2] w (Er w (.int .i64 (bZ m n))):=by
 obtain⟨A,c,rfl,ha⟩:=h1
 obtain⟨B,d,rfl,hb⟩:=h2
 have hla:=ha.len
 have hlb:=hb.len
 by_cases hlt:(af aP m).length<(af aP n).length
 ·have hmn:=di aI hlt
  have e:bZ m n = -1:=by unfold bZ; rw[if_pos hmn]
  rw[e]
  go_enter Tryz.func180,Tryz.ntmps180
  go_wp2
  all_goals (go_ret; exact⟨rfl,0,rfl⟩)
 ·by_cases hgt:(af aP n).length<(af aP m).length
  ·have hmn:=di aI hgt
   have e:bZ m n=1:=by unfold bZ; rw[if_neg (by omega),if_pos hmn]
   rw[e]
   go_enter Tryz.func180,Tryz.ntmps180
   go_wp2
   all_goals (go_ret; exact⟨rfl,0,rfl⟩)
  ·have Q5:(af aP m).length=(af aP n).length:=by omega
   have wa:=cj aI m
   have wb:=cj aI n
   have va:=bI aI m
   have vb:=bI aI n
   generalize af aP m=a at *
   generalize af aP n=b at *
   rw[<-Q5]at hlb ⊢
   have HL:=Lib.hid Q5
   have VA:=Lib.hid va
   have VB:=Lib.hid vb
   clear Q5 va vb hlt hgt hlb
   go_enter Tryz.func180,Tryz.ntmps180
   go_wp2
   go_loopw [5] (λs5 wr=>∃i:Nat,i<=a.length/\s5=.int .i64 ((i:Int)-1)/\a.drop i=b.drop i/\∃q,wr=w.drewN q)
    (λs5 _=>(intOf s5+1).toNat)
   case atStart=>exact⟨a.length,Nat.le_refl _,rfl,by rw[List.drop_of_length_le (Nat.le_refl _),List.drop_of_length_le (by have:=HL.out; omega)],0,rfl⟩
   case round=>
    obtain⟨i,hi,rfl,hd,q,rfl⟩:=hrel
    have HD:=Lib.hid hd
    clear hd
    rcases Nat.eq_zero_or_pos i with rfl|hpos
    ·rw[show(((0:Nat):Int)-1) = -1 by omega]
     have:a=b:=by simpa using HD.out
     have e:m=n:=by rw[<-VA.out,<-VB.out,this]
     have e0:bZ m n=0:=by unfold bZ; rw[if_neg (by omega),if_neg (by omega)]
     have E0:=Lib.hid e0
     clear e e0 this
     go_wp2
     go_ret
     exact⟨kO E0.out.symm,_,rfl⟩
    ·obtain⟨j,rfl⟩:∃j,i=j+1:=⟨i-1,by omega⟩
     obtain⟨b1,o1,x,rfl,Dg,HX⟩:=ha.get (i:=j) (by omega)
     obtain⟨b2,o2,y,rfl,RI,HY⟩:=hb.get (i:=j) (by have:=HL.out; omega)
     rw[show(((j+1:Nat):Int)-1)=(j:Int) by omega]
     have Ff:(0:Int)<=(j:Int):=by omega
     have fA:(j:Int)<(a.length:Int):=by omega
     rcases Nat.lt_trichotomy x y with hxy|hxy|hxy
     ·have VL:(x:Int)<(y:Int):=by omega
      have hmn:m<n:=by
       rw[<-VA.out,<-VB.out]
       exact qa wa HX.out HY.out HD.out hxy
      have E0:Hid (bZ m n = -1):=by show bZ m n = -1; unfold bZ; rw[if_pos hmn]
      clear hmn
      go_wp2
      go_quiet (fail)
      go_wp2
      go_ret
      exact⟨kO E0.out.symm,_,World.drewN_drewN _ _ _⟩
     ·subst hxy
      go_wp2
      go_quiet (fail)
      go_wp2
      go_quiet (fail)
      go_wp2
      go_roundw
      case rel=>exact⟨j,by omega,by go_num,EZ HX.out HY.out HD.out,_,rfl⟩
      case measure=>simp[intOf]
     ·have VL:(y:Int)<(x:Int):=by omega
      have hmn:n<m:=by
       rw[<-VA.out,<-VB.out]
       exact qa wb HY.out HX.out HD.out.symm hxy
      have E0:Hid (bZ m n=1):=by show bZ m n=1; unfold bZ; rw[if_neg (by omega),if_pos hmn]
      clear hmn
      go_wp2
      go_quiet (fail)
      go_wp2
      go_quiet (fail)
      go_wp2
      go_ret
      exact⟨kO E0.out.symm,_,(World.drewN_drewN _ _ _).trans (World.drewN_drewN _ _ _)⟩
theorem rT (w:World) (v1 v2:Value) (m n:Nat) (h1:bQ .u32 aP w v1 m) (h2:bQ .u32 aP w v2 n):
  Calls Tryz.prog 180 #[v1,v2] w (fU w (.int .i64 (bZ m n))):=(PV w v1 v2 m n h1 h2).mono λ_ _ h=>h.is
end Wx

namespace Wx
open Go Go.RowKit Go.Proofs
theorem iR {x:Nat} (h:x<aP):(x:Int)<=4294967295:=by unfold aP at h; omega
end Wx

namespace Wx
set_option maxRecDepth 100000
set_option maxHeartbeats 1000000
open Go Go.RowKit Go.Proofs
variable {x y o:List Nat} {br:Nat}
theorem nD {i vx vy s t L g:Nat} {wr w0:World} (dB:o.length=i) (hlt:i<L) (gS:Wf aP o) (hs:s+vy+br=vx+aP*t) (qO:s<aP)
  (hx:x.getD i 0=vx) (hy:y.getD i 0=vy) (hr:Row wr .u32 270 g (o++List.replicate (L-i) 0)) (hbl:Below w0.heap.size w0 wr) (hg:w0.heap.size<=g)
  (hval:val aP o+val aP (y.take i)=val aP (x.take i)+aP^i*br):
  ∃(o':List Nat),o'.length=i+1/\Wf aP o' /\
   Row (wr.setCell ⟨g,i,none⟩ (.int .u32 (s:Int))) .u32 270 g (o'++List.replicate (L-(i+1)) 0) /\
   Below w0.heap.size w0 (wr.setCell ⟨g,i,none⟩ (.int .u32 (s:Int)))/\val aP o'+val aP (y.take (i+1))=val aP (x.take (i+1))+aP^(i+1)*t:=by
 refine⟨o++[s],by simp[dB],gS.append (Wf.cons qO (Wf.nil _)),?_,hbl.setCell hg _,?_⟩
 ·have h:=hr.set i s
  rw[show L-i=(L-(i+1))+1 by omega,List.replicate_succ,pX dB]at h
  rw[List.append_assoc]
  exact h
 ·exact EP dB hval (by rw[jg,hx]) (by rw[jg,hy]) hs
theorem Ms {b m n:Nat} (gS:Wf b o) (dB:o.length=x.length) (hly:y.length<=x.length) (hval:val b o+val b (y.take x.length)=val b (x.take x.length)+b^x.length*br)
  (hm:val b x=m) (hn:val b y=n) (hnm:n<=m):val b o=m-n:=by
 rw[List.take_of_length_le (Nat.le_refl _),List.take_of_length_le hly,hm,hn]at hval
 have hlt:=kI gS
 rw[dB]at hlt
 rcases Nat.eq_zero_or_pos br with rfl|hb
 ·omega
 ·have h5:b^x.length<=b^x.length*br:=Nat.le_mul_of_pos_right _ hb
  omega
theorem xJ (w:World) (v1 v2:Value) (m n:Nat) (h1:bQ .u32 aP w v1 m) (h2:bQ .u32 aP w v2 n) (hnm:n<=m) {j:Nat} (hj:Bd j m) (fA:j<=1000000000):
  Calls Tryz.prog 199 #[v1,v2] w (xU w (m-n)):=by
 obtain⟨X,cx,rfl,hx⟩:=h1
 obtain⟨Y,cy,rfl,hy⟩:=h2
 have hla:=zE hj
 have xM:(af aP n).length<=(af aP m).length:=by
  rcases Nat.lt_or_ge (af aP m).length (af aP n).length with h|h
  ·have:=di aI h; omega
  ·exact h
 have wx:=cj aI m
 have wy:=cj aI n
 have sF:=bI aI m
 have Ki:=bI aI n
 clear hj
 generalize af aP m=x at *
 generalize af aP n=y at *
 have BU:x.length<=1000000000:=by omega
 clear hla
 have HX:=Lib.hid sF
 have HY:=Lib.hid Ki
 clear sF Ki
 go_enter Tryz.func199,Tryz.ntmps199
 go_wp2_with (at_make; refine en _ rfl _ _ _ rfl .u32 270 Tryz.underlying44 tr _ _ rfl rfl (by omega) (by omega) (by omega) ?_; intro w1 hrow dZ hsz)
 rw[Int.toNat_natCast]at hrow
 go_loopw [6,7] (λs6 s7 wr=>∃(i br:Nat) (o:List Nat),i<=x.length/\s7=.int .i64 i/\s6=.int .u64 br/\br<=1/\o.length=i/\Wf aP o/\Row wr .u32 270 w.heap.size (o++List.replicate (x.length-i) 0)/\Below w.heap.size w wr/\val aP o+val aP (y.take i)=val aP (x.take i)+aP^i*br)
  (λ_ s7 _=>x.length-(intOf s7).toNat)
 case atStart=>exact⟨0,0,[],by omega,rfl,rfl,by omega,rfl,Wf.nil _,by simpa using hrow,dZ,by simp[val]⟩
 case round=>
  obtain⟨i,br,o,hi,rfl,rfl,OT,dB,gS,hr,hbl,hval⟩:=hrel
  have er:=Lib.hid hval
  have fK:=Lib.hid dB
  clear hval dB hrow dZ hsz
  by_cases hlt:i<x.length
  ·obtain⟨bx,ox,vx,rfl,Dg,pn⟩:=(hx.below hbl).get hlt
   have sF:=iR (wx _ (List.mem_of_getElem? pn.out))
   obtain⟨vo,LO,NL⟩:=hr.get (i:=i) (by have:=fK.out; simp; omega)
   have AR:=hr.frozen i
   have hi0:(0:Int)<=(i:Int):=by omega
   have hi1:(i:Int)<(x.length:Int):=by omega
   by_cases AE:i<y.length
   ·obtain⟨XD,oy,vy,rfl,RI,CE⟩:=(hy.below hbl).get AE
    have Ki:=iR (wy _ (List.mem_of_getElem? CE.out))
    by_cases Di:vx<br+vy
    ·skip
     have Vn:(vx:Int)<(br:Int)+(vy:Int):=by omega
     have E:=Lib.hid (show((vx:Int)+4294967296-((br:Int)+(vy:Int)))=(((vx+4294967296-(br+vy)):Nat):Int) by omega)
     have Zi:(0:Int)<=(vx:Int)+4294967296-((br:Int)+(vy:Int)):=by omega
     go_wp2
     go_roundw
     case rel=>
      obtain⟨o',r⟩:=nD (vx:=vx) (vy:=vy) (s:=(vx+4294967296-(br+vy))) (t:=1) fK.out hlt gS (by unfold aP; omega) (by unfold aP; omega) (by rw[List.getD_eq_getElem?_getD,pn.out]; rfl) (by rw[List.getD_eq_getElem?_getD,CE.out]; rfl) hr hbl (Nat.le_refl _) er.out
      rw[E.out]
      exact⟨i+1,1,o',by omega,by go_num,rfl,by omega,r⟩
     case measure=>simp[intOf]; omega
    ·skip
     have Vn:¬((vx:Int)<(br:Int)+(vy:Int)):=by omega
     have E:=Lib.hid (show((vx:Int)-((br:Int)+(vy:Int)))=(((vx-(br+vy)):Nat):Int) by omega)
     have Zi:(0:Int)<=(vx:Int)-((br:Int)+(vy:Int)):=by omega
     go_wp2
     go_roundw
     case rel=>
      obtain⟨o',r⟩:=nD (vx:=vx) (vy:=vy) (s:=(vx-(br+vy))) (t:=0) fK.out hlt gS (by unfold aP; omega) (by unfold aP; omega) (by rw[List.getD_eq_getElem?_getD,pn.out]; rfl) (by rw[List.getD_eq_getElem?_getD,CE.out]; rfl) hr hbl (Nat.le_refl _) er.out
      rw[E.out]
      exact⟨i+1,0,o',by omega,by go_num,rfl,by omega,r⟩
     case measure=>simp[intOf]; omega
   ·by_cases Di:vx<br
    ·skip
     have Vn:(vx:Int)<(br:Int):=by omega
     have E:=Lib.hid (show((vx:Int)+4294967296-(br:Int))=(((vx+4294967296-(br+0)):Nat):Int) by omega)
     have Zi:(0:Int)<=(vx:Int)+4294967296-(br:Int):=by omega
     go_wp2
     go_roundw
     case rel=>
      obtain⟨o',r⟩:=nD (vx:=vx) (vy:=0) (s:=(vx+4294967296-(br+0))) (t:=1) fK.out hlt gS (by unfold aP; omega) (by unfold aP; omega) (by rw[List.getD_eq_getElem?_getD,pn.out]; rfl) (by rw[List.getD_eq_getElem?_getD,List.getElem?_eq_none (by omega)]; rfl) hr hbl (Nat.le_refl _) er.out
      rw[E.out]
      exact⟨i+1,1,o',by omega,by go_num,rfl,by omega,r⟩
     case measure=>simp[intOf]; omega
    ·skip
     have Vn:¬((vx:Int)<(br:Int)):=by omega
     have E:=Lib.hid (show((vx:Int)-(br:Int))=(((vx-(br+0)):Nat):Int) by omega)
     have Zi:(0:Int)<=(vx:Int)-(br:Int):=by omega
     go_wp2
     go_roundw
     case rel=>
      obtain⟨o',r⟩:=nD (vx:=vx) (vy:=0) (s:=(vx-(br+0))) (t:=0) fK.out hlt gS (by unfold aP; omega) (by unfold aP; omega) (by rw[List.getD_eq_getElem?_getD,pn.out]; rfl) (by rw[List.getD_eq_getElem?_getD,List.getElem?_eq_none (by omega)]; rfl) hr hbl (Nat.le_refl _) er.out
      rw[E.out]
      exact⟨i+1,0,o',by omega,by go_num,rfl,by omega,r⟩
     case measure=>simp[intOf]; omega
  ·obtain rfl:i=x.length:=by omega
   have HF:=Lib.hid (Ms gS fK.out xM er.out HX.out HY.out hnm)
   rw[Nat.sub_self,List.replicate_zero,List.append_nil]at hr
   have hrd:=hr.gL (c:=x.length) (by have:=fK.out; omega) (by unfold maxLen; omega)
   go_wp2_with fail
   refine(wB _ _ _ o (m-n) hrd gS _ fK.out HF.out).mono ?_
   rintro e w' ⟨rfl,kn,rfl,hv⟩
   go_wp2
   go_ret
   exact⟨_,_,_,Nat.le_refl _,rfl,hv,hbl⟩
end Wx
