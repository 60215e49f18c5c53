import Derived.Test.YtpiniclogfefjaaGreatJSolves11
namespace Wx
open Go Go.RowKit Go.Proofs

theorem add64_at {x y c:Operand} {ops:Array Oper} {Q:Exit→Act→World→Prop} {o:Oper} {rest:List Oper} {a:Act} {w:World} {X Y C:Int}
  (hx:a.eval x=.int .u64 X) (hy:a.eval y=.int .u64 Y) (hc:a.eval c=.int .u64 C) (x0:0≤X) (y0:0≤Y) (c0:0≤C) (c1:C≤1)
  (hK:wpList Tryz.prog ops Q rest (a.put o.dst (.tuple #[.int .u64 (addLo X Y C),.int .u64 (addHi X Y C)])) w):Ext3 Tryz.prog 120 x y c ops Q o rest a w:=
 add64_ext Tryz.func120 (by kernel_rfl) (by kernel_rfl) (by kernel_rfl) (by kernel_rfl) hx hy hc x0 y0 c0 c1 hK

theorem addLo_nat (x y c:Nat):addLo (x:Int) y c=(((x+y+c)%Qa:Nat):Int):=by unfold addLo Qa; omega
theorem addHi_nat (x y c:Nat):addHi (x:Int) y c=(((x+y+c)/Qa:Nat):Int):=by unfold addHi Qa; omega
theorem addLo_nat0 (x c:Nat):addLo (x:Int) 0 c=(((x+0+c)%Qa:Nat):Int):=addLo_nat x 0 c
theorem addHi_nat0 (x c:Nat):addHi (x:Int) 0 c=(((x+0+c)/Qa:Nat):Int):=addHi_nat x 0 c
theorem carry_le {x y c:Nat} (hx:x<Qa) (hy:y<Qa) (hc:c≤1):(x+y+c)/Qa≤1:=by unfold Qa at *; omega

theorem plus_round {x y o:List Nat} {i cr vx vy:Nat} {g:Nat} {wr w0:World} (hol:o.length=i) (hlt:i<x.length) (wx:Wf Qa x) (wy:Wf Qa y) (hcr:cr≤1) (hwo:Wf Qa o)
  (hx:x[i]?=some vx) (hy:y.getD i 0=vy) (hr:Row wr .u64 127 g (o++List.replicate (x.length+1-i) 0)) (hbl:Below w0.heap.size w0 wr) (hg:w0.heap.size≤g)
  (hval:Qh Qa o+Qa^i*cr=Qh Qa (x.take i)+Qh Qa (y.take i)):
  ∃(cr':Nat) (o':List Nat),((vx+vy+cr)/Qa=cr')∧cr'≤1∧o'.length=i+1∧Wf Qa o' ∧
   Row (wr.setCell ⟨g,i,none⟩ (.int .u64 (((vx+vy+cr)%Qa:Nat):Int))) .u64 127 g (o'++List.replicate (x.length+1-(i+1)) 0) ∧
   Below w0.heap.size w0 (wr.setCell ⟨g,i,none⟩ (.int .u64 (((vx+vy+cr)%Qa:Nat):Int)))∧Qh Qa o'+Qa^(i+1)*cr'=Qh Qa (x.take (i+1))+Qh Qa (y.take (i+1)):=by
 have hvx:vx<Qa:=wx _ (List.mem_of_getElem? hx)
 have hvy:vy<Qa:=by
  rw[← hy,List.getD_eq_getElem?_getD]
  cases h:y[i]? with
  |none=>simp[Qa]
  |some z=>exact wy _ (List.mem_of_getElem? h)
 refine⟨_,o++[(vx+vy+cr)%Qa],rfl,carry_le hvx hvy hcr,by simp[hol],hwo.append (Wf.cons (Nat.mod_lt _ (by unfold Qa; omega)) (Wf.nil _)),?_,hbl.setCell hg _,?_⟩
 ·have h:=hr.set i ((vx+vy+cr)%Qa)
  rw[show x.length+1-i=(x.length+1-(i+1))+1 by omega,List.replicate_succ,Qb5 hol]at h
  rw[List.append_assoc]
  exact h
 ·exact sum_step hol hval (Jl hx) (by rw[Wy,hy]) (by have:=Nat.mod_add_div (vx+vy+cr) Qa; omega)

theorem plus_top {x y o:List Nat} {cr:Nat} (hx:Top x) (wx:Wf Qa x) (wo:Wf Qa o) (hol:o.length=x.length) (hxl:2≤Qa) (hval:Qh Qa o+Qa^o.length*cr=Qh Qa x+Qh Qa y):cr=0→Top o:=by
 rintro rfl
 refine top_of_pow wo ?_
 by_cases h:o=[]
 ·exact .inl h
 ·refine .inr ?_
  have hd:=Qeq hxl wx hx
  have hpos:0<Qh Qa x:=by
   rcases Nat.eq_zero_or_pos (Qh Qa x)with h0|h0
   ·rw[h0,Yo]at hd
    rw[← hd]at hol
    exact absurd (List.eq_nil_of_length_eq_zero hol) h
   ·exact h0
  have:=Qfz hxl hpos
  rw[hd]at this
  rw[hol]
  simp at hval
  omega

set_option maxHeartbeats 400000 in
theorem plus_num (w:World) (v1 v2:Value) (m n:Nat) (h1:Num .u64 Qa w v1 m) (h2:Num .u64 Qa w v2 n) {j k:Nat} (hj:Bd j m) (hk:Bd k n) (hj1:j≤1000000000) (hk1:k≤1000000000):
  Calls Tryz.prog 100 #[v1,v2] w (J6 .u64 Qa w (m+n)):=by
 obtain⟨A,c,rfl,ha⟩:=h1
 obtain⟨B,d,rfl,hb⟩:=h2
 have hla:=len64 hj
 have hlb:=len64 hk
 have hv:Qh Qa (digs Qa m)+Qh Qa (digs Qa n)=m+n:=by rw[Yg Qu,Yg Qu]
 have wa:=Yz Qu m
 have wb:=Yz Qu n
 have ta:=Qct Qu m
 have tb:=Qct Qu n
 clear hj hk
 generalize digs Qa m=a at *
 generalize digs Qa n=b at *
 generalize m+n=s at *
 go_enter Tryz.func100,Tryz.ntmps100
 go_upto_if 14 with fail
 go_cut [0,1] (fun v0 v1 w'=>w'=w∧∃X cx x Y cy y,v0=.slice X x.length cx∧v1=.slice Y y.length cy∧Rd w .u64 X cx x∧Rd w .u64 Y cy y∧Wf Qa x∧Wf Qa y∧Top x∧y.length≤x.length∧x.length≤1000000000∧Qh Qa x+Qh Qa y=s)
 case first=>
  by_cases h:a.length<b.length
  ·go_wp2
   go_meet
   case rel=>exact⟨rfl,B,d,b,A,c,a,rfl,rfl,hb,ha,wb,wa,tb,by omega,by omega,by omega⟩
  ·go_wp2
   go_meet
   case rel=>exact⟨rfl,A,c,a,B,d,b,rfl,rfl,ha,hb,wa,wb,ta,by omega,by omega,hv⟩
 case rest=>
  obtain⟨rfl,X,cx,x,Y,cy,y,rfl,rfl,hx,hy,wx,wy,tx,hyx,hx1,hs⟩:=hcut
  clear ha hb wa wb ta tb hla hlb hv
  have HS:=Lib.hid hs
  clear hs
  have hlx:=hx.len
  have hly:=hy.len
  go_wp2_with (at_make; refine Jm _ rfl _ _ _ rfl .u64 127 Tryz.underlying36 Qa7 _ _ rfl rfl (by omega) (by omega) (by omega) ?_; intro w1 hrow hbel hsz)
  go_loopw [6,25] (fun s6 s25 wr=>∃(i cr:Nat) (o:List Nat),i≤x.length∧s25=.int .i64 i∧s6=.int .u64 cr∧cr≤1∧o.length=i∧Wf Qa o∧Row wr .u64 127 wc.heap.size (o++List.replicate (x.length+1-i) 0)∧Below wc.heap.size wc wr∧Qh Qa o+Qa^i*cr=Qh Qa (x.take i)+Qh Qa (y.take i))
   (fun _ s25 _=>x.length-(intOf s25).toNat)
  case atStart=>exact⟨0,0,[],by omega,rfl,rfl,by omega,rfl,Wf.nil _,by simpa using hrow,hbel,by simp[Qh]⟩
  case round=>
   obtain⟨i,cr,o,hi,rfl,rfl,hcr,hol,hwo,hr,hbl,hval⟩:=hrel
   have HVAL:=Lib.hid hval
   have HOL:=Lib.hid hol
   clear hval hol hrow hbel hsz
   by_cases hlt:i<x.length
   ·obtain⟨bx,ox,vx,rfl,hcx,HVX⟩:=(hx.below hbl).get hlt
    obtain⟨vo,hco,HVO⟩:=hr.get (i:=i) (by have:=HOL.out; simp; omega)
    have hcf:=hr.frozen i
    by_cases hy1:i<y.length
    ·obtain⟨by_,oy,vy,rfl,hcy,HVY⟩:=(hy.below hbl).get hy1
     go_wp2_with ((with_reducible refine U6 120 rfl rfl ?_); refine add64_at rfl rfl rfl (by omega) (by omega) (by omega) (by omega) ?_)
     go_roundw
     case rel=>
      rw[addLo_nat,addHi_nat]
      obtain⟨cr',o',e,r⟩:=plus_round (vy:=vy) HOL.out hlt wx wy hcr hwo HVX.out (by rw[List.getD_eq_getElem?_getD,HVY.out]; rfl) hr hbl (Nat.le_refl _) HVAL.out
      exact⟨i+1,cr',o',by omega,by go_num,by rw[e],r⟩
     case measure=>simp[intOf]; omega
    ·go_wp2_with ((with_reducible refine U6 120 rfl rfl ?_); refine add64_at rfl rfl rfl (by omega) (by omega) (by omega) (by omega) ?_)
     go_roundw
     case rel=>
      rw[addLo_nat0,addHi_nat0]
      obtain⟨cr',o',e,r⟩:=plus_round (vy:=0) HOL.out hlt wx wy hcr hwo HVX.out (by rw[List.getD_eq_getElem?_getD,List.getElem?_eq_none (by omega)]; rfl) hr hbl (Nat.le_refl _) HVAL.out
      exact⟨i+1,cr',o',by omega,by go_num,by rw[e],r⟩
     case measure=>simp[intOf]; omega
   ·obtain rfl:i=x.length:=by omega
    have hfin:Qh Qa o+Qa^o.length*cr=s:=by
     have:=HVAL.out
     rw[HOL.out,this,List.take_of_length_le (Nat.le_refl _),List.take_of_length_le (by omega)]; exact HS.out
    have HF:=Lib.hid hfin
    clear hfin
    rw[show x.length+1-x.length=1 by omega,show List.replicate 1 0=[0]from rfl]at hr
    rcases Nat.eq_zero_or_pos cr with rfl|hc0
    ·go_wp2
     go_ret
     refine⟨_,rfl,?_,hbl⟩
     have h:=hr.rd (n:=x.length) (c:=x.length+1) (by simp; have:=HOL.out; omega) (by omega) (by unfold maxLen; omega)
     rw[← HOL.out,List.take_left]at h
     have hF:=HF.out
     rw[Nat.mul_zero,Nat.add_zero]at hF
     rw[← hF,← HOL.out]
     exact Num.of Qu h rfl hwo (plus_top (y:=y) tx wx hwo HOL.out Qu (by have h1:=HF.out; have h2:=HS.out; omega) rfl)
    ·have hA:=hr.keep ((Below.refl _ _).alloc (Nat.le_refl _) (.cells #[.int .u64 (cr:Int)] 127))
     obtain⟨vo,hco,_⟩:=hA.get (i:=x.length) (by simp; have:=HOL.out; omega)
     have hcf:=hA.frozen x.length
     go_wp2
     go_ret
     refine⟨_,rfl,?_,(hbl.alloc hbl.size _).setCell (Nat.le_refl _) _⟩
     have hR:=hA.set x.length cr
     rw[Qb5 HOL.out]at hR
     have hF:=HF.out
     rw[← Qdb]at hF
     rw[← hF]
     have hl:(o++[cr]).length=x.length+1:=by simp[HOL.out]
     exact Num.of Qu (hR.rd_all (by omega) (by unfold maxLen; omega)) hl (hwo.append (Wf.cons (by unfold Qa; omega) (Wf.nil _))) (by unfold Top; simp; omega)
end Wx

namespace Wx

def Xu (n:Nat):Nat:=if n=0 then 0 else Nat.log2 n+1
theorem Qcn:Xu 0=0:=rfl
theorem Qbz {n:Nat} (h:0<n):0<Xu n:=by unfold Xu; rw[if_neg (by omega)]; omega
theorem Qey (n:Nat):n<2^Xu n:=by
 unfold Xu
 split
 ·next h=>subst h; decide
 ·exact Nat.lt_log2_self
theorem Qcw {n:Nat} (h:0<n):2^(Xu n-1)≤n:=by
 unfold Xu
 rw[if_neg (by omega)]
 exact Nat.log2_self_le (by omega)
theorem Qhj {n k:Nat} (h1:2^k≤n) (h2:n<2^(k+1)):Xu n=k+1:=by
 have h0:0<n:=Nat.lt_of_lt_of_le (Nat.two_pow_pos k) h1
 have a1:=Qey n
 have a2:=Qcw h0
 have a3:=Qbz h0
 have b1:k<Xu n:=by
  rcases Nat.lt_or_ge k (Xu n)with h|h
  ·exact h
  ·have:=Nat.pow_le_pow_right (show 0<2 by omega) h; omega
 have b2:Xu n-1<k+1:=by
  rcases Nat.lt_or_ge (Xu n-1) (k+1)with h|h
  ·exact h
  ·have:=Nat.pow_le_pow_right (show 0<2 by omega) h; omega
 omega
theorem nbits_half {n:Nat} (h:0<n):Xu n=Xu (n/2)+1:=by
 by_cases h1:n=1
 ·subst h1; decide
 ·have h2:0<n/2:=by omega
  have a:=Qey (n/2)
  have b:=Qcw h2
  have c:=Qbz h2
  have e:=Qhj (n:=n) (k:=Xu (n/2)) (by
   have:2^Xu (n/2)=2*2^(Xu (n/2)-1):=by
    rw[← Nat.pow_succ']; congr 1; omega
   omega) (by rw[Nat.pow_succ]; omega)
  exact e
theorem nbits_mul_add {t m low k:Nat} (ht:0<t) (hl:low<2^k) (hm:m=low+2^k*t):Xu m=k+Xu t:=by
 have a:=Qey t
 have b:=Qcw ht
 have c:=Qbz ht
 have e:=Qhj (n:=m) (k:=k+(Xu t-1)) (by
  rw[Nat.pow_add,hm]
  have:=Nat.mul_le_mul_left (2^k) b
  omega) (by
  rw[show k+(Xu t-1)+1=k+Xu t by omega,Nat.pow_add,hm]
  have:=Nat.mul_le_mul_left (2^k) (Nat.succ_le_of_lt a)
  rw[Nat.mul_succ]at this
  omega)
 omega
theorem Qex {j n:Nat} (h:Bd j n):Xu n≤j:=by
 rcases Nat.eq_zero_or_pos n with rfl|h0
 ·rw[Qcn]; omega
 ·have a:=Qcw h0
  have b:=Qbz h0
  rcases Nat.lt_or_ge j (Xu n)with h'|h'
  ·have:=Nat.pow_le_pow_right (show 0<2 by omega) (show j≤Xu n-1 by omega)
   unfold Bd at h
   omega
  ·exact h'
theorem nbits_lt_of {m n:Nat} (h:Xu m<Xu n):m<n:=by
 have a:=Qey m
 have b:0<n:=by
  rcases Nat.eq_zero_or_pos n with rfl|h0
  ·rw[Qcn]at h; omega
  ·exact h0
 have c:=Qcw b
 have:=Nat.pow_le_pow_right (show 0<2 by omega) (show Xu m≤Xu n-1 by omega)
 omega
theorem nbits_start {a b:Nat} (hb:0<b):a<b*2^(Xu a-Xu b+1):=by
 have h1:=Qey a
 have h2:=Qcw hb
 have h3:=Qbz hb
 have h4:2^Xu a≤2^((Xu b-1)+(Xu a-Xu b+1)):=Nat.pow_le_pow_right (by omega) (by omega)
 rw[Nat.pow_add]at h4
 have h5:=Nat.mul_le_mul_right (2^(Xu a-Xu b+1)) h2
 omega
theorem ldiv_step {A b Q a i:Nat} (hA:A=Q*b+a) (ha:a<b*2^(i+1)) (hQ:2^(i+1) ∣ Q):
  (b*2^i≤a→A=(Q+2^i)*b+(a-b*2^i)∧a-b*2^i<b*2^i∧2^i ∣ Q+2^i)∧(a<b*2^i→2^i ∣ Q):=by
 have hd:2^i ∣ Q:=Nat.dvd_trans (Nat.pow_dvd_pow 2 (by omega)) hQ
 refine⟨fun h=>⟨?_,?_,Nat.dvd_add hd (Nat.dvd_refl _)⟩,fun _=>hd⟩
 ·rw[Nat.add_mul,Nat.mul_comm (2^i) b]; omega
 ·rw[Nat.pow_succ,← Nat.mul_assoc]at ha; omega
theorem half_pow (b i:Nat):b*2^(i+1)/2=b*2^i:=by
 rw[Nat.pow_succ,← Nat.mul_assoc,Nat.mul_div_cancel _ (by omega)]
theorem bit_room {x k:Nat} (hx:x<4294967296) (hk:k<32) (hd:2^(k+1) ∣ x):x+2^k<4294967296:=by
 obtain⟨y,rfl⟩:=hd
 have e:4294967296=2^(k+1)*2^(31-k):=by rw[← Nat.pow_add,show k+1+(31-k)=32 by omega]
 have h1:y<2^(31-k):=by
  rw[e]at hx
  exact Nat.lt_of_mul_lt_mul_left hx
 have h2:=Nat.mul_le_mul_left (2^(k+1)) (Nat.succ_le_of_lt h1)
 rw[Nat.mul_succ,← e]at h2
 have h3:2^k<2^(k+1):=Nat.pow_lt_pow_right (by omega) (by omega)
 omega
theorem word_dvd {l:List Nat} {i v:Nat} (hw:Wf 4294967296 l) (hd:2^(i+1) ∣ Qh 4294967296 l) (h:l[i/32]?=some v):2^(i%32+1) ∣ v:=by
 obtain⟨hi,hv⟩:=List.getElem?_eq_some_iff.1 h
 have e:=Z4 4294967296 l (i/32) (by omega)
 rw[Qda 4294967296 l (i/32) hi,hv]at e
 have hp:(4294967296:Nat)^(i/32)=2^(32*(i/32)):=by rw[Nat.pow_mul]
 have hi':i+1=32*(i/32)+(i%32+1):=by omega
 have hlow:=Vc (hw.take (i/32))
 rw[List.length_take,Nat.min_eq_left (by omega),hp]at hlow
 rw[hp]at e
 have h1:2^(32*(i/32)) ∣ Qh 4294967296 l:=Nat.dvd_trans (Nat.pow_dvd_pow 2 (by omega)) hd
 have h0:Qh 4294967296 (l.take (i/32))=0:=by
  rw[e]at h1
  have:=(Nat.dvd_add_left (Nat.dvd_mul_right _ _)).1 h1
  exact Nat.eq_zero_of_dvd_of_lt this hlow
 rw[e,h0,Nat.zero_add,hi',Nat.pow_add]at hd
 have h2:=Nat.dvd_of_mul_dvd_mul_left (Nat.two_pow_pos _) hd
 refine(Nat.dvd_add_left (Nat.dvd_trans ?_ (Nat.dvd_mul_right _ _))).1 h2
 have:(4294967296:Nat)=2^32:=by decide
 rw[this]
 exact Nat.pow_dvd_pow 2 (by omega)
theorem set_bit {l:List Nat} {i v:Nat} (h:l[i/32]?=some v):Qh 4294967296 (l.set (i/32) (v+2^(i%32)))=Qh 4294967296 l+2^i:=by
 have h1:=Qef (b:=4294967296) h (v+2^(i%32))
 have hp:(4294967296:Nat)^(i/32)=2^(32*(i/32)):=by rw[Nat.pow_mul]
 have e:2^i=2^(32*(i/32))*2^(i%32):=by rw[← Nat.pow_add]; congr 1; omega
 rw[Nat.mul_add,hp,← e]at h1
 omega
theorem half_step {x d D:Nat} (hd:D%2=d):(x+4294967296*D)/2=(x/2+2147483648*d)+4294967296*(D/2):=by omega
theorem dec_step {A r k:Nat} (hk:0<k):(A*10^k+r)%10=r%10∧(A*10^k+r)/10=A*10^(k-1)+r/10:=by
 obtain⟨j,rfl⟩:∃j,k=j+1:=⟨k-1,by omega⟩
 rw[Nat.pow_succ,← Nat.mul_assoc,Nat.add_sub_cancel]
 omega
theorem rest_step {r k:Nat} (hk:0<k) (h:r<10^k):r/10<10^(k-1):=by
 obtain⟨j,rfl⟩:∃j,k=j+1:=⟨k-1,by omega⟩
 rw[Nat.pow_succ]at h
 rw[Nat.add_sub_cancel]
 omega
end Wx

namespace Wx
open Go Go.RowKit Go.Proofs

theorem Xx:Ty Tryz.prog 38 true 3:=⟨fun _=>by kernel_rfl,fun _=>by kernel_rfl,by decide⟩
theorem Ub:∀w,(zeroValue 38).run Tryz.prog w=.ok (.agg #[.bool false,.slice none 0 0,.slice none 0 0]) w:=fun _=>by kernel_rfl
theorem Qci:∀b o w,(Instr.fieldAt 38 (.pointer (some ⟨b,o,none⟩)) 0).run Tryz.prog w=.ok (.pointer (some ⟨b,o+0,none⟩)) w:=fun _ _ _=>by kernel_rfl
theorem fa_Ratio_1:∀b o w,(Instr.fieldAt 38 (.pointer (some ⟨b,o,none⟩)) 1).run Tryz.prog w=.ok (.pointer (some ⟨b,o+1,none⟩)) w:=fun _ _ _=>by kernel_rfl
theorem fa_Ratio_2:∀b o w,(Instr.fieldAt 38 (.pointer (some ⟨b,o,none⟩)) 2).run Tryz.prog w=.ok (.pointer (some ⟨b,o+2,none⟩)) w:=fun _ _ _=>by kernel_rfl
theorem Qee:Ty Tryz.prog 82 true 2:=⟨fun _=>by kernel_rfl,fun _=>by kernel_rfl,by decide⟩
theorem zv_Frac:∀w,(zeroValue 82).run Tryz.prog w=.ok (.agg #[.int .i64 0,.int .i64 0]) w:=fun _=>by kernel_rfl
theorem fa_Frac_0:∀b o w,(Instr.fieldAt 82 (.pointer (some ⟨b,o,none⟩)) 0).run Tryz.prog w=.ok (.pointer (some ⟨b,o+0,none⟩)) w:=fun _ _ _=>by kernel_rfl
theorem fa_Frac_1:∀b o w,(Instr.fieldAt 82 (.pointer (some ⟨b,o,none⟩)) 1).run Tryz.prog w=.ok (.pointer (some ⟨b,o+1,none⟩)) w:=fun _ _ _=>by kernel_rfl
theorem ty_int:Ty Tryz.prog 3 false 1:=⟨fun _=>by kernel_rfl,fun _=>by kernel_rfl,by decide⟩
theorem ty_int64:Ty Tryz.prog 2 false 1:=⟨fun _=>by kernel_rfl,fun _=>by kernel_rfl,by decide⟩
theorem Qaa:Ty Tryz.prog 4 false 1:=⟨fun _=>by kernel_rfl,fun _=>by kernel_rfl,by decide⟩
theorem Yc:Ty Tryz.prog 42 true 3:=⟨fun _=>by kernel_rfl,fun _=>by kernel_rfl,by decide⟩
theorem zv_R:∀w,(zeroValue 42).run Tryz.prog w=.ok (.agg #[.bool false,.slice none 0 0,.slice none 0 0]) w:=fun _=>by kernel_rfl
theorem fa_R_0:∀b o w,(Instr.fieldAt 42 (.pointer (some ⟨b,o,none⟩)) 0).run Tryz.prog w=.ok (.pointer (some ⟨b,o+0,none⟩)) w:=fun _ _ _=>by kernel_rfl
theorem fa_R_1:∀b o w,(Instr.fieldAt 42 (.pointer (some ⟨b,o,none⟩)) 1).run Tryz.prog w=.ok (.pointer (some ⟨b,o+1,none⟩)) w:=fun _ _ _=>by kernel_rfl
theorem Qg0:Ty Tryz.prog 36 false 1:=⟨fun _=>by kernel_rfl,fun _=>by kernel_rfl,by decide⟩
theorem Xb:SlTy Tryz.prog 39 38 3:=⟨by kernel_rfl,fun _=>by kernel_rfl⟩
theorem Qt:SlTy Tryz.prog 25 39 1:=⟨by kernel_rfl,fun _=>by kernel_rfl⟩
end Wx

namespace Wx
open Go Go.RowKit Go.Proofs

def Xm (n:Nat):Qg:=fun w v=>Num .u64 Qa w v n
theorem Wz (n:Nat):Zg (Xm n):=fun _ _ _ hM h=>Qec hM (.inl rfl) h
theorem fits_num (n:Nat):J4 1 false (Xm n):=by
 rintro w v ⟨A,c,rfl,_⟩
 refine⟨[_],rfl,rfl,rfl,?_⟩
 intro u hu
 simp at hu
 subst hu
 exact⟨Jz _ _ _,rfl⟩
def Yh (q:Rat):List Fd:=[⟨false,1,pB (decide (q.num<0))⟩,⟨false,1,Xm q.num.natAbs⟩,⟨false,1,Xm (Qo q.den)⟩]
theorem rat_S (q:Rat):∀w v,Qv q w v→pS (Yh q) w v:=by
 rintro w v ⟨vn,vd,rfl,h1,h2⟩
 exact pS_of' (cs:=[.bool (decide (q.num<0)),vn,vd]) ⟨by simp,rfl,by simp,h1,by simp,h2,rfl⟩
theorem fits_ratS (q:Rat):J4 3 true (pS (Yh q)):=fits_s (fs:=Yh q) ⟨fits_bool _,fits_num _,fits_num _,trivial⟩ rfl
theorem ret_num {w:World} {n:Nat} {e:Ending} {w':World} (h:J6 .u64 Qa w n e w'):Kb (Xm n) w e w':=h
theorem c_lcmp (m n:Nat):∀w v1 v2,Xm m w v1→Xm n w v2→Calls Tryz.prog 79 #[v1,v2] w (Kb (pI (X0 m n)) w):=fun w v1 v2 h1 h2=>(Qf1 w v1 v2 m n h1 h2).mono fun _ _ h=>⟨_,h.1,rfl,h.2⟩
theorem c_plus {m n j k:Nat} (hj:Bd j m) (hk:Bd k n) (hj1:j≤1000000000) (hk1:k≤1000000000):∀w v1 v2,Xm m w v1→Xm n w v2→Calls Tryz.prog 100 #[v1,v2] w (Kb (Xm (m+n)) w):=fun w v1 v2 h1 h2=>(plus_num w v1 v2 m n h1 h2 hj hk hj1 hk1).mono fun _ _=>ret_num
theorem c_under {d:Nat} (hd:0<d):∀w v1,Xm (Qo d) w v1→Calls Tryz.prog 97 #[v1] w (Kb (Xm d) w):=fun w v1 h1=>(Uv w v1 d h1 hd).mono fun _ _=>ret_num
section
variable {P:Program} {ops:Array Oper} {ms:List Nat} {c:Cfg} {V:List Vr} {A:List Al} {G:List Ent} {i:Nat} {L:Nat→Bool} {β:Nat→Nat→Prop} {a:Act} {w:World} {o:Oper}
variable {d:Nat} {x y z:Operand} {ty:TypeId} {pos:String} {aft:Array Edge}
theorem op_loadEq {T:TypeId} {v:Value} (h:Has ms G i x (Wr 1 false (Qi v))) (ht:Ty P T false 1) (hp:Post G i (Qi v)):Q0 P ops ms c V A G i ⟨some d,.load T x,ty,pos,aft,none⟩:=
 Qc2 rfl rfl rfl rfl h hp fun ρ w h=>by
  obtain⟨b,o,cs,e,hl,hc,hv⟩:=h
  refine⟨Xd false cs,?_,fun _ _=>hv⟩
  show(do pure (Next.value (← Instr.loadAt T (ρ x)))).run P w=_
  rw[e,Sem.run_bind,V9 ht hc hl]
  rfl
end
end Wx

namespace Wx
set_option maxRecDepth 100000
open Go Go.RowKit Go.Proofs
set_option linter.unusedVariables false

theorem cmpI_cases (m n:Nat):(m<n∧X0 m n = -1)∨(m=n∧X0 m n=0)∨(n<m∧X0 m n=1):=by
 unfold X0
 rcases Nat.lt_trichotomy m n with h|h|h
 ·exact .inl ⟨h,if_pos h⟩
 ·exact .inr (.inl ⟨h,by rw[if_neg (by omega),if_neg (by omega)]⟩)
 ·exact .inr (.inr ⟨h,by rw[if_neg (by omega),if_pos h]⟩)
theorem cmpI_at {m n:Nat} (h:X0 m n≥(0:Int)):n≤m:=by
 rcases cmpI_cases m n with⟨h1,e⟩|⟨h1,e⟩|⟨h1,e⟩<;>omega
theorem cmpI_below {m n:Nat} (h:¬X0 m n≥(0:Int)):m≤n:=by
 rcases cmpI_cases m n with⟨h1,e⟩|⟨h1,e⟩|⟨h1,e⟩<;>omega
theorem pRat_eqS {x y:Rat} (h:x=y):∀w v,Qv x w v→Qv y w v:=fun _ _ k=>h▸k
theorem c_timesS {m n j k:Nat} (hj:Bd j m) (hk:Bd k n) (h1:j≤1000000000) (h2:k≤1000000000):∀w v1 v2,Xm m w v1→Xm n w v2→Calls Tryz.prog 96 #[v1,v2] w (Kb (Xm (m*n)) w):=fun w v1 v2 a b=>Qb7 w v1 v2 m n a b hj hk h1 h2
theorem c_minusS {m n j:Nat} (hnm:n≤m) (hj:Bd j m) (h1:j≤1000000000):∀w v1 v2,Xm m w v1→Xm n w v2→Calls Tryz.prog 101 #[v1,v2] w (Kb (Xm (m-n)) w):=fun w v1 v2 a b=>minus_num w v1 v2 m n a b hnm hj h1
theorem Qgb {neg:Bool} {n d j:Nat} (hj:Bd j n) (hk:Bd j d) (hd:0<d) (hj1:j≤100000000):∀w v1 v2 v3,pB neg w v1→Xm n w v2→Xm d w v3→Calls Tryz.prog 70 #[v1,v2,v3] w (Kb (Qv (Yf neg n d)) w):=fun w v1 v2 v3 h1 h2 h3=>by
 have h1:v1=.bool neg:=h1
 rw[h1]
 exact Wa w neg v2 v3 n d h2 h3 hd hj hk hj1
theorem c_addS {x y:Rat} {j k:Nat} (hx:BdR j x) (hy:BdR k y) (hjk:j+k+j+k+1≤100000000):∀(M:Nat→Nat→Prop) (w:World) (v0 v1:Value),Mid M w→Box M (fun w=>(Qv x) w v0) w→Box M (fun w=>(Qv y) w v1) w→Calls Tryz.prog 62 #[v0,v1] w (RetB M (Qv (x+y)) w):=by
 intro M w0 v0 v1 hM hv0 hv1
 have b1:=(hx.1.mul hy.2).add (hy.1.mul hx.2)
 have b2:Bd (j+k+(k+j)+1) (x.num.natAbs*y.den-y.num.natAbs*x.den):=((hx.1.mul hy.2).mono (by omega)).le (Nat.sub_le _ _)
 have b3:Bd (j+k+(k+j)+1) (y.num.natAbs*x.den-x.num.natAbs*y.den):=((hy.1.mul hx.2).mono (by omega)).le (Nat.sub_le _ _)
 have b4:Bd (j+k+(k+j)+1) (x.den*y.den):=(hx.2.mul hy.2).mono (by omega)
 have hd:0<x.den*y.den:=Nat.mul_pos x.den_pos y.den_pos
 refine Q8 (N:=58) Tryz.func62 rfl rfl rfl hM (show EntsA M w0 [v0,v1] [⟨none,none,0,Qv x⟩,⟨none,none,1,Qv y⟩]from⟨⟨rfl,_,rfl,hv0⟩,⟨rfl,_,rfl,hv1⟩,trivial⟩) fun a hI=>?_
 refine Qbp (V1:=[⟨2,2,some 0,none,.ptr,38,3,true,pv (pS (Yh x)),[]⟩,⟨3,3,some 1,none,.ptr,38,3,true,pv (pS (Yh y)),[]⟩,⟨4,4,some 2,none,.ptr,38,3,true,pv (Qv 0),[]⟩]) (A1:=[]) (G1:=[⟨none,none,0,Qv x⟩,⟨none,none,1,Qv y⟩]) (V2:=[⟨2,2,none,none,.ptr,38,3,true,pv (pS (Yh x)),[]⟩,⟨3,3,none,none,.ptr,38,3,true,pv (pS (Yh y)),[]⟩,⟨4,4,none,none,.ptr,38,3,true,pv (Qv 0),[]⟩]) (G2:=[]) hI rfl rfl rfl [0,1,3] (by kernel_rfl) (by kernel_rfl) ?_ [0,1,2] [] rfl rfl fun a w hI=>?_
 ·exact⟨Qa8 0 rfl rfl (by kernel_rfl) (by kernel_rfl) rfl rfl rfl (.imp (.tmp 0 rfl rfl) (rat_S _)) (fits_ratS _) rfl,Qa8 1 rfl rfl (by kernel_rfl) (by kernel_rfl) rfl rfl rfl (.imp (.tmp 1 rfl rfl) (rat_S _)) (fits_ratS _) rfl,Jv 2 rfl rfl (by kernel_rfl) (by kernel_rfl) rfl rfl rfl Ub rfl rfl (by simp[Yw]) rfl (fun w=>Jd w),trivial⟩
 refine W3 (V1:=[⟨2,2,none,none,.ptr,38,3,true,pv (pS (Yh x)),[]⟩,⟨3,3,none,none,.ptr,38,3,true,pv (pS (Yh y)),[]⟩,⟨4,4,none,none,.ptr,38,3,true,pv (Qv 0),[]⟩]) (A1:=[⟨some 0,9,2,2,True⟩,⟨some 3,12,3,2,True⟩]) (G1:=[⟨some 1,none,10,Xm (Qo x.den)⟩,⟨some 2,none,11,Xm x.den⟩,⟨some 4,none,13,Xm (Qo y.den)⟩,⟨some 5,none,14,Xm y.den⟩,⟨some 6,none,5,Xm x.den⟩,⟨some 7,none,6,Xm y.den⟩]) (V2:=[⟨2,2,none,none,.ptr,38,3,true,pv (pS (Yh x)),[]⟩,⟨3,3,none,none,.ptr,38,3,true,pv (pS (Yh y)),[]⟩,⟨4,4,none,none,.ptr,38,3,true,pv (Qv 0),[]⟩]) (G2:=[⟨none,none,5,Xm x.den⟩,⟨none,none,6,Xm y.den⟩]) hI rfl rfl rfl [0,1,3,0,8,31,63,127] (by kernel_rfl) (by kernel_rfl) (by kernel_rfl) (by kernel_rfl) ?_ [0,1,2] [4,5] rfl rfl fun a w hI=>?_
 ·exact⟨Zw 0 rfl rfl rfl 0 rfl rfl rfl rfl (.inl ⟨rfl,rfl⟩) rfl (by kernel_rfl) (fun b w=>fa_Ratio_2 b 0 w),Zs 0 rfl 0 rfl rfl rfl rfl rfl trivial rfl rfl (by kernel_rfl) Qg0 rfl rfl (Wm (fs:=(Yh x)) 2 (f:=⟨false,1,Xm (Qo x.den)⟩) rfl (off:=2) rfl) (.here 0 rfl),Qan (fun _ _=>by kernel_rfl) (Wz _) (.tmp 0 rfl rfl) (.here 1 rfl) (c_under (Rat.den_pos _)),Zw 1 rfl rfl rfl 1 rfl rfl rfl rfl (.inl ⟨rfl,rfl⟩) rfl (by kernel_rfl) (fun b w=>fa_Ratio_2 b 0 w),Zs 1 rfl 1 rfl rfl rfl rfl rfl trivial rfl rfl (by kernel_rfl) Qg0 rfl rfl (Wm (fs:=(Yh y)) 2 (f:=⟨false,1,Xm (Qo y.den)⟩) rfl (off:=2) rfl) (.here 2 rfl),Qan (fun _ _=>by kernel_rfl) (Wz _) (.tmp 2 rfl rfl) (.here 3 rfl) (c_under (Rat.den_pos _)),Ys (.tmp 1 rfl rfl) (.here 4 rfl),Ys (.tmp 3 rfl rfl) (.here 5 rfl),trivial⟩
 refine W3 (V1:=[⟨2,2,none,none,.ptr,38,3,true,pv (pS (Yh x)),[]⟩,⟨3,3,none,none,.ptr,38,3,true,pv (pS (Yh y)),[]⟩,⟨4,4,none,none,.ptr,38,3,true,pv (Qv 0),[]⟩]) (A1:=[⟨some 0,15,2,1,True⟩,⟨some 4,19,3,1,True⟩]) (G1:=[⟨none,none,5,Xm x.den⟩,⟨none,none,6,Xm y.den⟩,⟨some 1,none,16,Xm x.num.natAbs⟩,⟨some 2,none,17,Xm y.den⟩,⟨some 3,none,18,Xm (x.num.natAbs*y.den)⟩,⟨some 5,none,20,Xm y.num.natAbs⟩,⟨some 6,none,21,Xm x.den⟩,⟨some 7,none,22,Xm (y.num.natAbs*x.den)⟩,⟨some 8,none,7,Xm (x.num.natAbs*y.den)⟩,⟨some 9,none,8,Xm (y.num.natAbs*x.den)⟩]) (V2:=[⟨2,2,none,none,.ptr,38,3,true,pv (pS (Yh x)),[]⟩,⟨3,3,none,none,.ptr,38,3,true,pv (pS (Yh y)),[]⟩,⟨4,4,none,none,.ptr,38,3,true,pv (Qv 0),[]⟩]) (G2:=[⟨none,none,5,Xm x.den⟩,⟨none,none,6,Xm y.den⟩,⟨none,none,7,Xm (x.num.natAbs*y.den)⟩,⟨none,none,8,Xm (y.num.natAbs*x.den)⟩]) hI rfl rfl rfl [0,1,0,7,0,16,0,127,255,511] (by kernel_rfl) (by kernel_rfl) (by kernel_rfl) (by kernel_rfl) ?_ [0,1,2] [0,1,8,9] rfl rfl fun a w hI=>?_
 ·exact⟨Zw 0 rfl rfl rfl 0 rfl rfl rfl rfl (.inl ⟨rfl,rfl⟩) rfl (by kernel_rfl) (fun b w=>fa_Ratio_1 b 0 w),Zs 0 rfl 0 rfl rfl rfl rfl rfl trivial rfl rfl (by kernel_rfl) Qg0 rfl rfl (Wm (fs:=(Yh x)) 1 (f:=⟨false,1,Xm x.num.natAbs⟩) rfl (off:=1) rfl) (.here 2 rfl),Qx (.tmp 1 rfl rfl) (.here 3 rfl),Kf (fun _ _=>by kernel_rfl) (Wz _) (.tmp 2 rfl rfl) (.tmp 3 rfl rfl) (.here 4 rfl) (c_timesS (hx).1 hy.2 (by omega) (by omega)),Zw 1 rfl rfl rfl 1 rfl rfl rfl rfl (.inl ⟨rfl,rfl⟩) rfl (by kernel_rfl) (fun b w=>fa_Ratio_1 b 0 w),Zs 1 rfl 1 rfl rfl rfl rfl rfl trivial rfl rfl (by kernel_rfl) Qg0 rfl rfl (Wm (fs:=(Yh y)) 1 (f:=⟨false,1,Xm y.num.natAbs⟩) rfl (off:=1) rfl) (.here 5 rfl),Qx (.tmp 0 rfl rfl) (.here 6 rfl),Kf (fun _ _=>by kernel_rfl) (Wz _) (.tmp 5 rfl rfl) (.tmp 6 rfl rfl) (.here 7 rfl) (c_timesS (hy).1 hx.2 (by omega) (by omega)),Ys (.tmp 4 rfl rfl) (.here 8 rfl),Ys (.tmp 7 rfl rfl) (.here 9 rfl),trivial⟩
 refine Qbp (V1:=[⟨2,2,none,none,.ptr,38,3,true,pv (pS (Yh x)),[]⟩,⟨3,3,none,none,.ptr,38,3,true,pv (pS (Yh y)),[]⟩,⟨4,4,none,none,.ptr,38,3,true,pv (Qv 0),[]⟩]) (A1:=[]) (G1:=[⟨none,some 3,5,Xm x.den⟩,⟨none,none,6,Xm y.den⟩,⟨none,none,7,Xm (x.num.natAbs*y.den)⟩,⟨none,none,8,Xm (y.num.natAbs*x.den)⟩,⟨some 0,none,23,Xm x.den⟩,⟨some 1,none,24,Xm y.den⟩,⟨some 2,none,25,Xm (x.den*y.den)⟩,⟨some 3,none,5,Xm (x.den*y.den)⟩]) (V2:=[⟨2,2,none,none,.ptr,38,3,true,pv (pS (Yh x)),[]⟩,⟨3,3,none,none,.ptr,38,3,true,pv (pS (Yh y)),[]⟩,⟨4,4,none,none,.ptr,38,3,true,pv (Qv 0),[]⟩]) (G2:=[⟨none,none,7,Xm (x.num.natAbs*y.den)⟩,⟨none,none,8,Xm (y.num.natAbs*x.den)⟩,⟨none,none,5,Xm (x.den*y.den)⟩]) hI rfl rfl rfl [0,1,3,7] (by kernel_rfl) (by kernel_rfl) ?_ [0,1,2] [1,2,6] rfl rfl fun a w hI=>?_
 ·exact⟨Qx (.tmp 0 rfl rfl) (.here 4 rfl),Qx (.tmp 1 rfl rfl) (.here 5 rfl),Kf (fun _ _=>by kernel_rfl) (Wz _) (.tmp 4 rfl rfl) (.tmp 5 rfl rfl) (.here 6 rfl) (c_timesS hx.2 hy.2 (by omega) (by omega)),Ys (.tmp 6 rfl rfl) (.here 7 rfl),trivial⟩
 refine wp_seq ?_
 refine wp_block ?_
 refine Qbp (V1:=[⟨2,2,none,none,.ptr,38,3,true,pv (pS (Yh x)),[]⟩,⟨3,3,none,none,.ptr,38,3,true,pv (pS (Yh y)),[]⟩,⟨4,4,none,none,.ptr,38,3,true,pv (Qv 0),[]⟩]) (A1:=[⟨some 0,27,2,0,True⟩,⟨some 2,29,3,0,True⟩]) (G1:=[⟨none,none,7,Xm (x.num.natAbs*y.den)⟩,⟨none,none,8,Xm (y.num.natAbs*x.den)⟩,⟨none,none,5,Xm (x.den*y.den)⟩,⟨some 1,none,28,pB (decide (x.num<0))⟩,⟨some 3,none,30,pB (decide (y.num<0))⟩,⟨some 4,none,31,pB ((decide (x.num<0))==(decide (y.num<0)))⟩,⟨some 5,none,26,pB ((decide (x.num<0))==(decide (y.num<0)))⟩]) (V2:=[⟨2,2,none,none,.ptr,38,3,true,pv (pS (Yh x)),[]⟩,⟨3,3,none,none,.ptr,38,3,true,pv (pS (Yh y)),[]⟩,⟨4,4,none,none,.ptr,38,3,true,pv (Qv 0),[]⟩]) (G2:=[⟨none,none,7,Xm (x.num.natAbs*y.den)⟩,⟨none,none,8,Xm (y.num.natAbs*x.den)⟩,⟨none,none,5,Xm (x.den*y.den)⟩,⟨none,none,26,pB ((decide (x.num<0))==(decide (y.num<0)))⟩]) hI rfl rfl rfl [0,1,3,7,15,31] (by kernel_rfl) (by kernel_rfl) ?_ [0,1,2] [0,1,2,6] rfl rfl fun a w hI=>?_
 ·exact⟨Zw 0 rfl rfl rfl 0 rfl rfl rfl rfl (.inl ⟨rfl,rfl⟩) rfl (by kernel_rfl) (fun b w=>Qci b 0 w),Zs 0 rfl 0 rfl rfl rfl rfl rfl trivial rfl rfl (by kernel_rfl) Qaa rfl rfl (Wm (fs:=(Yh x)) 0 (f:=⟨false,1,pB (decide (x.num<0))⟩) rfl (off:=0) rfl) (.here 3 rfl),Zw 1 rfl rfl rfl 1 rfl rfl rfl rfl (.inl ⟨rfl,rfl⟩) rfl (by kernel_rfl) (fun b w=>Qci b 0 w),Zs 1 rfl 1 rfl rfl rfl rfl rfl trivial rfl rfl (by kernel_rfl) Qaa rfl rfl (Wm (fs:=(Yh y)) 0 (f:=⟨false,1,pB (decide (y.num<0))⟩) rfl (off:=0) rfl) (.here 4 rfl),Qik (v:=.bool ((decide (x.num<0))==(decide (y.num<0)))) (.tmp 3 rfl rfl) (.tmp 4 rfl rfl) (fun _=>by kernel_rfl) (.here 5 rfl),Ys (.tmp 5 rfl rfl) (.here 6 rfl),trivial⟩
 refine Xa hI 3 rfl (fun ht=>?_) (fun ht=>?_)
 ·have t1:=ht
  refine W3 (V1:=[⟨2,2,none,none,.ptr,38,3,true,pv (pS (Yh x)),[]⟩,⟨3,3,none,none,.ptr,38,3,true,pv (pS (Yh y)),[]⟩,⟨4,4,none,none,.ptr,38,3,true,pv (Qv 0),[(7,pv (Qv (Yf (decide (x.num<0)) ((x.num.natAbs*y.den)+(y.num.natAbs*x.den)) (x.den*y.den))))]⟩]) (A1:=[⟨some 0,32,2,0,True⟩]) (G1:=[⟨none,none,7,Xm (x.num.natAbs*y.den)⟩,⟨none,none,8,Xm (y.num.natAbs*x.den)⟩,⟨none,none,5,Xm (x.den*y.den)⟩,⟨none,none,26,pB ((decide (x.num<0))==(decide (y.num<0)))⟩,⟨some 1,none,33,pB (decide (x.num<0))⟩,⟨some 2,none,34,Xm (x.num.natAbs*y.den)⟩,⟨some 3,none,35,Xm (y.num.natAbs*x.den)⟩,⟨some 4,none,36,Xm ((x.num.natAbs*y.den)+(y.num.natAbs*x.den))⟩,⟨some 5,none,37,Xm (x.den*y.den)⟩,⟨some 6,none,38,Qv (Yf (decide (x.num<0)) ((x.num.natAbs*y.den)+(y.num.natAbs*x.den)) (x.den*y.den))⟩]) (V2:=[⟨2,2,none,none,.ptr,38,3,true,pv (pS (Yh x)),[]⟩,⟨3,3,none,none,.ptr,38,3,true,pv (pS (Yh y)),[]⟩,⟨4,4,none,none,.ptr,38,3,true,pv (Qv (Yf (decide (x.num<0)) ((x.num.natAbs*y.den)+(y.num.natAbs*x.den)) (x.den*y.den))),[]⟩]) (G2:=[⟨none,none,7,Xm (x.num.natAbs*y.den)⟩,⟨none,none,8,Xm (y.num.natAbs*x.den)⟩,⟨none,none,5,Xm (x.den*y.den)⟩]) hI rfl rfl rfl [0,1,0,0,12,0,63,127] (by kernel_rfl) (by kernel_rfl) (by kernel_rfl) (by kernel_rfl) ?_ [0,1,2] [0,1,2] rfl rfl fun a w hI=>?_
  ·exact⟨Zw 0 rfl rfl rfl 0 rfl rfl rfl rfl (.inl ⟨rfl,rfl⟩) rfl (by kernel_rfl) (fun b w=>Qci b 0 w),Zs 0 rfl 0 rfl rfl rfl rfl rfl trivial rfl rfl (by kernel_rfl) Qaa rfl rfl (Wm (fs:=(Yh x)) 0 (f:=⟨false,1,pB (decide (x.num<0))⟩) rfl (off:=0) rfl) (.here 4 rfl),Qx (.tmp 0 rfl rfl) (.here 5 rfl),Qx (.tmp 1 rfl rfl) (.here 6 rfl),Kf (fun _ _=>by kernel_rfl) (Wz _) (.tmp 5 rfl rfl) (.tmp 6 rfl rfl) (.here 7 rfl) (c_plus (((hx).1).mul hy.2) (((hy).1).mul hx.2) (by omega) (by omega)),Qx (.tmp 2 rfl rfl) (.here 8 rfl),Qc0 (fun _ _=>by kernel_rfl) (Zf _) (.tmp 4 rfl rfl) (.tmp 7 rfl rfl) (.tmp 8 rfl rfl) (.here 9 rfl) (Qgb b1 b4 hd (by omega)),Za 2 rfl rfl rfl rfl 0 rfl (by kernel_rfl) (by kernel_rfl) Xx (.tmp 9 rfl rfl) (Ym _),trivial⟩
  refine wp_ret ?_
  refine Z5 ?_
  refine Xf ?_
  exact Zu hI rfl (.imp (.cell 2 rfl rfl rfl rfl Xx rfl) (pRat_eqS (Qf6 x y (beq_iff_eq.1 t1)).symm))
 ·have t2:=ht
  refine Qbp (V1:=[⟨2,2,none,none,.ptr,38,3,true,pv (pS (Yh x)),[]⟩,⟨3,3,none,none,.ptr,38,3,true,pv (pS (Yh y)),[]⟩,⟨4,4,none,none,.ptr,38,3,true,pv (Qv 0),[]⟩]) (A1:=[]) (G1:=[⟨none,none,7,Xm (x.num.natAbs*y.den)⟩,⟨none,none,8,Xm (y.num.natAbs*x.den)⟩,⟨none,none,5,Xm (x.den*y.den)⟩,⟨none,none,26,pB ((decide (x.num<0))==(decide (y.num<0)))⟩,⟨some 0,none,40,Xm (x.num.natAbs*y.den)⟩,⟨some 1,none,41,Xm (y.num.natAbs*x.den)⟩,⟨some 2,none,42,pI (X0 (x.num.natAbs*y.den) (y.num.natAbs*x.den))⟩,⟨some 3,none,43,pB (decide ((X0 (x.num.natAbs*y.den) (y.num.natAbs*x.den))≥(0:Int)))⟩,⟨some 4,none,39,pB (decide ((X0 (x.num.natAbs*y.den) (y.num.natAbs*x.den))≥(0:Int)))⟩]) (V2:=[⟨2,2,none,none,.ptr,38,3,true,pv (pS (Yh x)),[]⟩,⟨3,3,none,none,.ptr,38,3,true,pv (pS (Yh y)),[]⟩,⟨4,4,none,none,.ptr,38,3,true,pv (Qv 0),[]⟩]) (G2:=[⟨none,none,7,Xm (x.num.natAbs*y.den)⟩,⟨none,none,8,Xm (y.num.natAbs*x.den)⟩,⟨none,none,5,Xm (x.den*y.den)⟩,⟨none,none,39,pB (decide ((X0 (x.num.natAbs*y.den) (y.num.natAbs*x.den))≥(0:Int)))⟩]) hI rfl rfl rfl [0,1,3,7,15] (by kernel_rfl) (by kernel_rfl) ?_ [0,1,2] [0,1,2,8] rfl rfl fun a w hI=>?_
  ·exact⟨Qx (.tmp 0 rfl rfl) (.here 4 rfl),Qx (.tmp 1 rfl rfl) (.here 5 rfl),Kf (fun _ _=>by kernel_rfl) (Y2 _) (.tmp 4 rfl rfl) (.tmp 5 rfl rfl) (.here 6 rfl) (c_lcmp _ _),Q6 (v:=.bool (decide ((X0 (x.num.natAbs*y.den) (y.num.natAbs*x.den))≥(0:Int)))) (.tmp 6 rfl rfl) (.const _) (fun _=>rfl) (.here 7 rfl),Ys (.tmp 7 rfl rfl) (.here 8 rfl),trivial⟩
  refine Xa hI 3 rfl (fun ht=>?_) (fun ht=>?_)
  ·have t3:=of_decide_eq_true ht
   refine W3 (V1:=[⟨2,2,none,none,.ptr,38,3,true,pv (pS (Yh x)),[]⟩,⟨3,3,none,none,.ptr,38,3,true,pv (pS (Yh y)),[]⟩,⟨4,4,none,none,.ptr,38,3,true,pv (Qv 0),[(7,pv (Qv (Yf (decide (x.num<0)) ((x.num.natAbs*y.den)-(y.num.natAbs*x.den)) (x.den*y.den))))]⟩]) (A1:=[⟨some 0,44,2,0,True⟩]) (G1:=[⟨none,none,7,Xm (x.num.natAbs*y.den)⟩,⟨none,none,8,Xm (y.num.natAbs*x.den)⟩,⟨none,none,5,Xm (x.den*y.den)⟩,⟨none,none,39,pB (decide ((X0 (x.num.natAbs*y.den) (y.num.natAbs*x.den))≥(0:Int)))⟩,⟨some 1,none,45,pB (decide (x.num<0))⟩,⟨some 2,none,46,Xm (x.num.natAbs*y.den)⟩,⟨some 3,none,47,Xm (y.num.natAbs*x.den)⟩,⟨some 4,none,48,Xm ((x.num.natAbs*y.den)-(y.num.natAbs*x.den))⟩,⟨some 5,none,49,Xm (x.den*y.den)⟩,⟨some 6,none,50,Qv (Yf (decide (x.num<0)) ((x.num.natAbs*y.den)-(y.num.natAbs*x.den)) (x.den*y.den))⟩]) (V2:=[⟨2,2,none,none,.ptr,38,3,true,pv (pS (Yh x)),[]⟩,⟨3,3,none,none,.ptr,38,3,true,pv (pS (Yh y)),[]⟩,⟨4,4,none,none,.ptr,38,3,true,pv (Qv (Yf (decide (x.num<0)) ((x.num.natAbs*y.den)-(y.num.natAbs*x.den)) (x.den*y.den))),[]⟩]) (G2:=[⟨none,none,7,Xm (x.num.natAbs*y.den)⟩,⟨none,none,8,Xm (y.num.natAbs*x.den)⟩,⟨none,none,5,Xm (x.den*y.den)⟩]) hI rfl rfl rfl [0,1,0,0,12,0,63,127] (by kernel_rfl) (by kernel_rfl) (by kernel_rfl) (by kernel_rfl) ?_ [0,1,2] [0,1,2] rfl rfl fun a w hI=>?_
   ·exact⟨Zw 0 rfl rfl rfl 0 rfl rfl rfl rfl (.inl ⟨rfl,rfl⟩) rfl (by kernel_rfl) (fun b w=>Qci b 0 w),Zs 0 rfl 0 rfl rfl rfl rfl rfl trivial rfl rfl (by kernel_rfl) Qaa rfl rfl (Wm (fs:=(Yh x)) 0 (f:=⟨false,1,pB (decide (x.num<0))⟩) rfl (off:=0) rfl) (.here 4 rfl),Qx (.tmp 0 rfl rfl) (.here 5 rfl),Qx (.tmp 1 rfl rfl) (.here 6 rfl),Kf (fun _ _=>by kernel_rfl) (Wz _) (.tmp 5 rfl rfl) (.tmp 6 rfl rfl) (.here 7 rfl) (c_minusS (cmpI_at t3) (((hx).1).mul hy.2) (by omega)),Qx (.tmp 2 rfl rfl) (.here 8 rfl),Qc0 (fun _ _=>by kernel_rfl) (Zf _) (.tmp 4 rfl rfl) (.tmp 7 rfl rfl) (.tmp 8 rfl rfl) (.here 9 rfl) (Qgb b2 b4 hd (by omega)),Za 2 rfl rfl rfl rfl 0 rfl (by kernel_rfl) (by kernel_rfl) Xx (.tmp 9 rfl rfl) (Ym _),trivial⟩
   refine wp_ret ?_
   refine Z5 ?_
   refine Xf ?_
   exact Zu hI rfl (.imp (.cell 2 rfl rfl rfl rfl Xx rfl) (pRat_eqS (add_ge x y (beq_eq_false_iff_ne.1 t2) (cmpI_at t3)).symm))
  ·have t4:=of_decide_eq_false ht
   refine wp_skip ?_
   refine Xo ?_
   refine Qb ?_
   refine W3 (V1:=[⟨2,2,none,none,.ptr,38,3,true,pv (pS (Yh x)),[]⟩,⟨3,3,none,none,.ptr,38,3,true,pv (pS (Yh y)),[]⟩,⟨4,4,none,none,.ptr,38,3,true,pv (Qv 0),[(7,pv (Qv (Yf (decide (y.num<0)) ((y.num.natAbs*x.den)-(x.num.natAbs*y.den)) (x.den*y.den))))]⟩]) (A1:=[⟨some 0,51,3,0,True⟩]) (G1:=[⟨none,none,7,Xm (x.num.natAbs*y.den)⟩,⟨none,none,8,Xm (y.num.natAbs*x.den)⟩,⟨none,none,5,Xm (x.den*y.den)⟩,⟨none,none,39,pB (decide ((X0 (x.num.natAbs*y.den) (y.num.natAbs*x.den))≥(0:Int)))⟩,⟨some 1,none,52,pB (decide (y.num<0))⟩,⟨some 2,none,53,Xm (y.num.natAbs*x.den)⟩,⟨some 3,none,54,Xm (x.num.natAbs*y.den)⟩,⟨some 4,none,55,Xm ((y.num.natAbs*x.den)-(x.num.natAbs*y.den))⟩,⟨some 5,none,56,Xm (x.den*y.den)⟩,⟨some 6,none,57,Qv (Yf (decide (y.num<0)) ((y.num.natAbs*x.den)-(x.num.natAbs*y.den)) (x.den*y.den))⟩]) (V2:=[⟨2,2,none,none,.ptr,38,3,true,pv (pS (Yh x)),[]⟩,⟨3,3,none,none,.ptr,38,3,true,pv (pS (Yh y)),[]⟩,⟨4,4,none,none,.ptr,38,3,true,pv (Qv (Yf (decide (y.num<0)) ((y.num.natAbs*x.den)-(x.num.natAbs*y.den)) (x.den*y.den))),[]⟩]) (G2:=[]) hI rfl rfl rfl [0,1,0,0,12,0,63,127] (by kernel_rfl) (by kernel_rfl) (by kernel_rfl) (by kernel_rfl) ?_ [0,1,2] [] rfl rfl fun a w hI=>?_
   ·exact⟨Zw 1 rfl rfl rfl 0 rfl rfl rfl rfl (.inl ⟨rfl,rfl⟩) rfl (by kernel_rfl) (fun b w=>Qci b 0 w),Zs 1 rfl 0 rfl rfl rfl rfl rfl trivial rfl rfl (by kernel_rfl) Qaa rfl rfl (Wm (fs:=(Yh y)) 0 (f:=⟨false,1,pB (decide (y.num<0))⟩) rfl (off:=0) rfl) (.here 4 rfl),Qx (.tmp 1 rfl rfl) (.here 5 rfl),Qx (.tmp 0 rfl rfl) (.here 6 rfl),Kf (fun _ _=>by kernel_rfl) (Wz _) (.tmp 5 rfl rfl) (.tmp 6 rfl rfl) (.here 7 rfl) (c_minusS (cmpI_below t4) (((hy).1).mul hx.2) (by omega)),Qx (.tmp 2 rfl rfl) (.here 8 rfl),Qc0 (fun _ _=>by kernel_rfl) (Zf _) (.tmp 4 rfl rfl) (.tmp 7 rfl rfl) (.tmp 8 rfl rfl) (.here 9 rfl) (Qgb b3 b4 hd (by omega)),Za 2 rfl rfl rfl rfl 0 rfl (by kernel_rfl) (by kernel_rfl) Xx (.tmp 9 rfl rfl) (Ym _),trivial⟩
   refine wp_ret ?_
   exact Zu hI rfl (.imp (.cell 2 rfl rfl rfl rfl Xx rfl) (pRat_eqS (add_lt x y (beq_eq_false_iff_ne.1 t2) (cmpI_below t4)).symm))
theorem add_num (w:World) (vx vy:Value) (x y:Rat) (hx:IsRat w vx x) (hy:IsRat w vy y) {j k:Nat} (hj:BdR j x) (hk:BdR k y) (hjk:j+k+j+k+1≤100000000):Calls Tryz.prog 62 #[vx,vy] w (RetRat w (x+y)):=
 (c_addS hj hk hjk (fun _ _=>False) w vx vy (Qaj w) (Zf x _ w vx (Qaj w) hx) (Zf y _ w vy (Qaj w) hy)).mono fun _ _ h=>h.ret
end Wx
