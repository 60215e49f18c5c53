import Derived.Test.YtpiniclogfefjaaGreatJMatrices26
namespace Wx
set_option maxRecDepth 100000
open Go Go.RowKit Go.Proofs

theorem dig_cut {d:Nat} (h:d<10):(⟨#[48,49,50,51,52,53,54,55,56,57]⟩:ByteArray).extract d (d+1)=Qs [d+48]:=by
  match d,h with
  |0,_=>rfl
  |1,_=>rfl
  |2,_=>rfl
  |3,_=>rfl
  |4,_=>rfl
  |5,_=>rfl
  |6,_=>rfl
  |7,_=>rfl
  |8,_=>rfl
  |9,_=>rfl
  |n+10,h=>exact absurd h (by omega)
theorem dig_step {X S:List Nat} {x k r:Nat} (hk:k<9) (h:X=X6 (x*10^(9-k)+r)++S) (h0:0<x*10^(9-k)+r):
    X=X6 (x*10^(9-(k+1))+r/10)++((r%10+48)::S):=by
  obtain⟨e1,e2⟩:=dec_step (A:=x) (r:=r) (k:=9-k) (by omega)
  rw[h,Qcz h0,e1,e2,show 9-(k+1)=9-k-1 by omega,List.append_assoc]
  rfl

set_option maxHeartbeats 1000000 in
theorem Vm (w:World) (v:Value) (n:Nat) (h:Num .u32 Qg w v n) {j:Nat} (hj:Bd j n) (hj1:j≤100000000):Calls Tryz.prog 102 #[v] w (Zz w (.string (Qs (Q7 n)))):=by
  rcases Nat.eq_zero_or_pos n with rfl|hn0
  · obtain⟨A,c,rfl,hr⟩:=id h
    rw[Yt,textB_zero]
    go_enter Tryz.func102,Tryz.ntmps102
    go_wp2
    go_ret
    exact⟨rfl,Below.refl _ _⟩
  · rw[textB_pos hn0]
    obtain⟨A,c,rfl,hr⟩:=id h
    have hl1:(((digs Qg n).length:Int)==0)=false:=beq_eq_false_iff_ne.2 (by have:=(Xa (n:=n) Qy).2 hn0; omega)
    have HL:=bx (show(X6 n).length≤100000000 from Nat.le_trans (decL_of hj) hj1)
    generalize (digs Qg n).length=L at *
    obtain⟨X,hX⟩:∃X,X6 n=X:=⟨_,rfl⟩
    rw[hX]at HL ⊢
    have HX:=bx hX
    have HJ:=bx hj
    clear hX hj hr
    go_enter Tryz.func102,Tryz.ntmps102
    go_wp2_with fail
    go_loopw [0,3] (fun s0 s3 wr=>∃(x:Nat) (S:List Nat),Num .u32 Qg wr s0 x∧s3=.string (Qs S)∧Bx (X=X6 x++S)∧Bx (Bd j x)∧Below w.heap.size w wr) (fun s0 _ wr=>numOf32 wr s0)
    case atStart=>exact⟨n,[],h,rfl,bx (by rw[HX.out,List.append_nil]),HJ,Below.refl _ _⟩
    case round=>
      clear h HJ
      obtain⟨x,S,hx,rfl,HS,HJ,hb⟩:=hrel
      rcases Nat.eq_zero_or_pos x with rfl|hx0
      · obtain⟨A,c,rfl,hr⟩:=id hx
        rw[Yt]at hr ⊢
        have e:=HS.out
        rw[Uz,List.nil_append]at e
        have E:=bx e
        clear e
        go_wp2
        go_ret
        rw[E.out]
        exact⟨rfl,hb⟩
      · obtain⟨A,c,rfl,hr⟩:=id hx
        have hl2:(0:Int)<((digs Qg x).length:Int):=by have:=(Xa (n:=x) Qy).2 hx0; omega
        have hlen:=hr.len
        have HX0:=bx hx0
        generalize (digs Qg x).length=L2 at *
        clear hr hx0
        go_wp2_with fail
        refine Calls.mono (Qft wr _ x 1000000000 hx HJ.out (by omega) (by omega) (by unfold Qg; omega)) ?_
        rintro e w2 ⟨vq,rfl,hq,hb2⟩
        have hb3:=hb.trans (hb2.mono hb.size)
        have HR:=bx (show x%1000000000<10^9 from Nat.mod_lt _ (by omega))
        have HD:=bx (show x/1000000000*10^9+x%1000000000=x from by have:=Nat.div_add_mod x 1000000000; omega)
        have HQ:=bx (show Bd j (x/1000000000)from HJ.out.le (Nat.div_le_self _ _))
        have HM:=bx (show x/1000000000<x from Nat.div_lt_self HX0.out (by omega))
        have HNx:=bx hx
        clear hx
        generalize x/1000000000=y at *
        generalize x%1000000000=r0 at *
        obtain⟨A2,c2,rfl,hr2⟩:=id hq
        have hlen2:=hr2.len
        clear hr2
        go_wp2_with fail
        obtain⟨wo,rfl⟩:∃wo:World,wo=w2:=⟨_,rfl⟩
        go_loop [3,5,6] (fun s3 s5 s6=>∃(k r:Nat) (T:List Nat),k≤9∧s6=.int .i64 (k:Int)∧s5=.int .u32 (r:Int)∧s3=.string (Qs T)∧Bx (r<10^(9-k))∧Bx (X=X6 (y*10^(9-k)+r)++T)) (fun _ _ s6=>9-(intOf s6).toNat)
        case atStart=>exact⟨0,r0,S,by omega,rfl,rfl,rfl,HR,bx (by rw[Nat.sub_zero,HD.out]; exact HS.out)⟩
        case round=>
          clear HS HR HD
          obtain⟨k,r,T,hk,rfl,rfl,rfl,HR,HT⟩:=hrel
          by_cases hk9:k<9
          · rcases Nat.eq_zero_or_pos y with rfl|hy0
            · rw[Yt]at *
              rcases Nat.eq_zero_or_pos r with rfl|hr0
              · have hk9':(k:Int)<9:=by omega
                go_wp2
                go_roundw
                case rel=>exact⟨0,T,hq,rfl,bx (by rw[HT.out]; simp),HQ,hb3⟩
                case measure=>rw[Num.of_eq32 HNx.out,Num.of_eq32 hq]; exact HM.out
              · have hr0':(0:Int)<(r:Int):=by omega
                have hT:=dig_step hk9 HT.out (by omega)
                have hTl:T.length≤100000000:=by have h1:=HL.out; have h2:=congrArg List.length HT.out; rw[List.length_append]at h2; omega
                have HT2:=bx hT
                have hz:=Xm T
                have hc:=dig_cut (d:=r%10) (by omega)
                have HC:=bx hc
                have hap:=Z5 [r%10+48] T
                have HAP:=bx hap
                have hm1:(0:Int)≤(r:Int)%10:=by omega
                have hm2:(r:Int)%10≤9:=by omega
                have hrr:(r:Int)≤4294967295:=by have h1:=HR.out; have h2:10^(9-k)≤10^9:=Nat.pow_le_pow_right (by omega) (by omega); omega
                have HR2:=bx (rest_step (by omega) HR.out)
                have hk9':(k:Int)<9:=by omega
                clear hT hc hap
                go_wp2
                rw[HC.out,HAP.out]
                go_round
                case rel=>exact⟨k+1,r/10,(r%10+48)::T,by omega,by go_num,by go_num,rfl,bx (by have:=HR2.out; rwa [show 9-(k+1)=9-k-1 by omega]),HT2⟩
                case measure=>simp[intOf]; omega
            · have hl3:(0:Int)<((digs Qg y).length:Int):=by have:=(Xa (n:=y) Qy).2 hy0; omega
              generalize (digs Qg y).length=L3 at *
              have hT:=dig_step hk9 HT.out (by have:=Nat.mul_pos hy0 (Nat.pow_pos (n:=9-k) (show 0<10 by omega)); omega)
              have hTl:T.length≤100000000:=by have h1:=HL.out; have h2:=congrArg List.length HT.out; rw[List.length_append]at h2; omega
              have HT2:=bx hT
              have hz:=Xm T
              have hc:=dig_cut (d:=r%10) (by omega)
              have HC:=bx hc
              have hap:=Z5 [r%10+48] T
              have HAP:=bx hap
              have hm1:(0:Int)≤(r:Int)%10:=by omega
              have hm2:(r:Int)%10≤9:=by omega
              have hrr:(r:Int)≤4294967295:=by have h1:=HR.out; have h2:10^(9-k)≤10^9:=Nat.pow_le_pow_right (by omega) (by omega); omega
              have HR2:=bx (rest_step (by omega) HR.out)
              have hk9':(k:Int)<9:=by omega
              clear hT hc hap
              go_wp2
              rw[HC.out,HAP.out]
              go_round
              case rel=>exact⟨k+1,r/10,(r%10+48)::T,by omega,by go_num,by go_num,rfl,bx (by have:=HR2.out; rwa [show 9-(k+1)=9-k-1 by omega]),HT2⟩
              case measure=>simp[intOf]; omega
          · obtain rfl:k=9:=by omega
            have hr0:r=0:=by have:=HR.out; simpa using this
            subst hr0
            go_wp2
            go_roundw
            case rel=>exact⟨y,T,hq,rfl,bx (by rw[HT.out]; simp),HQ,hb3⟩
            case measure=>rw[Num.of_eq32 HNx.out,Num.of_eq32 hq]; exact HM.out
end Wx

namespace Wx
set_option maxRecDepth 100000
open Go Go.RowKit Go.Proofs

def Y8 (q:Rat):List Nat:=(if q.num<0 then[45]else[])++(Q7 q.num.natAbs++(if q.den=1 then[]else 47::Q7 q.den))
theorem Jd {j n:Nat} (h:Bd j n):(Q7 n).length≤j+1:=by
  unfold Q7
  split
  · simp
  · have:=decL_of h; unfold decL at this; omega
theorem Qdi (l:List Nat):(⟨#[45]⟩:ByteArray)++Qs l=Qs (45::l):=Z5 [45] l
theorem cat_slash (l:List Nat):(⟨#[47]⟩:ByteArray)++Qs l=Qs (47::l):=Z5 [47] l
set_option maxHeartbeats 1000000 in
theorem rtext_00 (w:World) (v:Value) (x:Rat) (hx:IsRat w v x) {j:Nat} (hj:BdR j x) (hj1:j≤100000000) (hn:¬x.num<0) (hd:¬x.den=1):Calls Tryz.prog 34 #[v] w (Zz w (.string (Qs (Y8 x)))):=by
  obtain⟨vx1,vx2,rfl,hxa,hxb⟩:=id hx
  obtain⟨Ax1,cx1,rfl,_⟩:=id hxa
  obtain⟨Ax2,cx2,rfl,_⟩:=id hxb
  have HB:=bx hj
  have hT:Y8 x=Q7 x.num.natAbs++47::Q7 x.den:=by unfold Y8; rw[if_neg hn,if_neg hd]; simp
  rw[hT,decide_eq_false hn]at *
  rw[Qcc hd]at *
  have hld:(1:Int)≤((digs Qb x.den).length:Int):=by have:=(Xa (n:=x.den) Qu).2 x.den_pos; omega
  have hl2:=Jd hj.2
  have hz2:=Xm (Q7 x.den)
  have hy2:=cat_slash (Q7 x.den)
  have hz3:=Xm (47::Q7 x.den)
  have hy3:=Z5 (Q7 x.num.natAbs) (47::Q7 x.den)
  have hl1:=Jd hj.1
  have hz1:=Xm (Q7 x.num.natAbs)
  have hq2:1+(Q7 x.den).length≤9223372036854775807:=by omega
  have hq3:(Q7 x.num.natAbs).length+((Q7 x.den).length+1)≤9223372036854775807:=by omega
  clear hj hn hd hT hl1 hl2
  go_enter Tryz.func34,Tryz.ntmps34
  go_wp2_with fail
  obtain⟨w1,e1,o1,b1,s1⟩:=Z7 w (.bool false) (.slice Ax1 (digs Qb x.num.natAbs).length cx1) (.slice Ax2 (digs Qb x.den).length cx2) 38
  rw[e1]
  clear e1
  refine Calls.mono (Qa3 w1 _ _ (hxa.below b1) HB.out.1 hj1) ?_
  rintro e w2 ⟨rfl,hb2⟩
  have k0:=(o1.gone hb2).c0
  have k1:=(o1.gone hb2).c1
  have k2:=(o1.gone hb2).c2
  have hxb2:=(hxb.below b1).below hb2
  have B2:=b1.trans (hb2.mono b1.size)
  go_wp2_with fail
  refine Calls.mono (Qa3 w2 _ _ hxb2 HB.out.2 hj1) ?_
  rintro e w3 ⟨rfl,hb3⟩
  go_wp2
  go_ret
  exact⟨rfl,B2.trans (hb3.mono B2.size)⟩

set_option maxHeartbeats 1000000 in
theorem rtext_01 (w:World) (v:Value) (x:Rat) (hx:IsRat w v x) {j:Nat} (hj:BdR j x) (hj1:j≤100000000) (hn:¬x.num<0) (hd:x.den=1):Calls Tryz.prog 34 #[v] w (Zz w (.string (Qs (Y8 x)))):=by
  obtain⟨vx1,vx2,rfl,hxa,hxb⟩:=id hx
  obtain⟨Ax1,cx1,rfl,_⟩:=id hxa
  obtain⟨Ax2,cx2,rfl,_⟩:=id hxb
  have HB:=bx hj
  have hT:Y8 x=Q7 x.num.natAbs:=by unfold Y8; rw[if_neg hn,if_pos hd]; simp
  rw[hT,decide_eq_false hn]at *
  rw[hd,Qbh,Yt]at *
  have hl1:=Jd hj.1
  have hz1:=Xm (Q7 x.num.natAbs)
  clear hj hn hd hT hl1
  go_enter Tryz.func34,Tryz.ntmps34
  go_wp2_with fail
  obtain⟨w1,e1,o1,b1,s1⟩:=Z7 w (.bool false) (.slice Ax1 (digs Qb x.num.natAbs).length cx1) (.slice Ax2 0 cx2) 38
  rw[e1]
  clear e1
  refine Calls.mono (Qa3 w1 _ _ (hxa.below b1) HB.out.1 hj1) ?_
  rintro e w2 ⟨rfl,hb2⟩
  have k0:=(o1.gone hb2).c0
  have k1:=(o1.gone hb2).c1
  have k2:=(o1.gone hb2).c2
  have hxb2:=(hxb.below b1).below hb2
  have B2:=b1.trans (hb2.mono b1.size)
  go_wp2
  go_ret
  exact⟨rfl,B2⟩

set_option maxHeartbeats 1000000 in
theorem rtext_10 (w:World) (v:Value) (x:Rat) (hx:IsRat w v x) {j:Nat} (hj:BdR j x) (hj1:j≤100000000) (hn:x.num<0) (hd:¬x.den=1):Calls Tryz.prog 34 #[v] w (Zz w (.string (Qs (Y8 x)))):=by
  obtain⟨vx1,vx2,rfl,hxa,hxb⟩:=id hx
  obtain⟨Ax1,cx1,rfl,_⟩:=id hxa
  obtain⟨Ax2,cx2,rfl,_⟩:=id hxb
  have HB:=bx hj
  have hT:Y8 x=45::(Q7 x.num.natAbs++47::Q7 x.den):=by unfold Y8; rw[if_pos hn,if_neg hd]; simp
  rw[hT,decide_eq_true hn]at *
  rw[Qcc hd]at *
  have hld:(1:Int)≤((digs Qb x.den).length:Int):=by have:=(Xa (n:=x.den) Qu).2 x.den_pos; omega
  have hl2:=Jd hj.2
  have hz2:=Xm (Q7 x.den)
  have hy2:=cat_slash (Q7 x.den)
  have hz3:=Xm (47::Q7 x.den)
  have hy1:=Qdi (Q7 x.num.natAbs)
  have hz4:=Xm (45::Q7 x.num.natAbs)
  have hy3:=Z5 (45::Q7 x.num.natAbs) (47::Q7 x.den)
  have hl1:=Jd hj.1
  have hz1:=Xm (Q7 x.num.natAbs)
  have hq1:1+(Q7 x.num.natAbs).length≤9223372036854775807:=by omega
  have hq2:1+(Q7 x.den).length≤9223372036854775807:=by omega
  have hq3:((Q7 x.num.natAbs).length+1)+((Q7 x.den).length+1)≤9223372036854775807:=by omega
  clear hj hn hd hT hl1 hl2
  go_enter Tryz.func34,Tryz.ntmps34
  go_wp2_with fail
  obtain⟨w1,e1,o1,b1,s1⟩:=Z7 w (.bool true) (.slice Ax1 (digs Qb x.num.natAbs).length cx1) (.slice Ax2 (digs Qb x.den).length cx2) 38
  rw[e1]
  clear e1
  refine Calls.mono (Qa3 w1 _ _ (hxa.below b1) HB.out.1 hj1) ?_
  rintro e w2 ⟨rfl,hb2⟩
  have k0:=(o1.gone hb2).c0
  have k1:=(o1.gone hb2).c1
  have k2:=(o1.gone hb2).c2
  have hxb2:=(hxb.below b1).below hb2
  have B2:=b1.trans (hb2.mono b1.size)
  go_wp2_with fail
  refine Calls.mono (Qa3 w2 _ _ hxb2 HB.out.2 hj1) ?_
  rintro e w3 ⟨rfl,hb3⟩
  go_wp2
  go_ret
  exact⟨rfl,B2.trans (hb3.mono B2.size)⟩

set_option maxHeartbeats 1000000 in
theorem rtext_11 (w:World) (v:Value) (x:Rat) (hx:IsRat w v x) {j:Nat} (hj:BdR j x) (hj1:j≤100000000) (hn:x.num<0) (hd:x.den=1):Calls Tryz.prog 34 #[v] w (Zz w (.string (Qs (Y8 x)))):=by
  obtain⟨vx1,vx2,rfl,hxa,hxb⟩:=id hx
  obtain⟨Ax1,cx1,rfl,_⟩:=id hxa
  obtain⟨Ax2,cx2,rfl,_⟩:=id hxb
  have HB:=bx hj
  have hT:Y8 x=45::Q7 x.num.natAbs:=by unfold Y8; rw[if_pos hn,if_pos hd]; simp
  rw[hT,decide_eq_true hn]at *
  rw[hd,Qbh,Yt]at *
  have hy1:=Qdi (Q7 x.num.natAbs)
  have hz4:=Xm (45::Q7 x.num.natAbs)
  have hl1:=Jd hj.1
  have hz1:=Xm (Q7 x.num.natAbs)
  have hq1:1+(Q7 x.num.natAbs).length≤9223372036854775807:=by omega
  clear hj hn hd hT hl1
  go_enter Tryz.func34,Tryz.ntmps34
  go_wp2_with fail
  obtain⟨w1,e1,o1,b1,s1⟩:=Z7 w (.bool true) (.slice Ax1 (digs Qb x.num.natAbs).length cx1) (.slice Ax2 0 cx2) 38
  rw[e1]
  clear e1
  refine Calls.mono (Qa3 w1 _ _ (hxa.below b1) HB.out.1 hj1) ?_
  rintro e w2 ⟨rfl,hb2⟩
  have k0:=(o1.gone hb2).c0
  have k1:=(o1.gone hb2).c1
  have k2:=(o1.gone hb2).c2
  have hxb2:=(hxb.below b1).below hb2
  have B2:=b1.trans (hb2.mono b1.size)
  go_wp2
  go_ret
  exact⟨rfl,B2⟩

theorem Qbf (w:World) (v:Value) (x:Rat) (hx:IsRat w v x) {j:Nat} (hj:BdR j x) (hj1:j≤100000000):Calls Tryz.prog 34 #[v] w (Zz w (.string (Qs (Y8 x)))):=by
  by_cases hn:x.num<0
  · by_cases hd:x.den=1
    · exact rtext_11 w v x hx hj hj1 hn hd
    · exact rtext_10 w v x hx hj hj1 hn hd
  · by_cases hd:x.den=1
    · exact rtext_01 w v x hx hj hj1 hn hd
    · exact rtext_00 w v x hx hj hj1 hn hd
end Wx

namespace Wx
set_option maxRecDepth 100000
open Go Go.RowKit Go.Proofs

set_option maxHeartbeats 1000000 in
theorem ntext_00 (w:World) (v:Value) (x:Rat) (hx:IsRef w v x) {j:Nat} (hj:BdR j x) (hj1:j≤100000000) (hn:¬x.num<0) (hd:¬x.den=1):Calls Tryz.prog 64 #[v] w (Zz w (.string (Qs (Y8 x)))):=by
  obtain⟨vx1,vx2,rfl,hxa,hxb⟩:=id hx
  obtain⟨Ax1,cx1,rfl,_⟩:=id hxa
  obtain⟨Ax2,cx2,rfl,_⟩:=id hxb
  have HB:=bx hj
  have hx0:=hx
  clear hx
  have hT:Y8 x=Q7 x.num.natAbs++47::Q7 x.den:=by unfold Y8; rw[if_neg hn,if_neg hd]; simp
  rw[hT]
  rw[decide_eq_false hn]at hx0
  try rw[decide_eq_false hn]
  have hc:Xy x.den 1=1:=by unfold Xy; have:=x.den_pos; rw[if_neg (by omega),if_pos (by omega)]
  have HC:=bx hc
  have hl1:=Jd hj.1
  have hl2:=Jd hj.2
  have hz1:=Xm (Q7 x.num.natAbs)
  have hz2:=Xm (Q7 x.den)
  have hy2:Qs (Q7 x.num.natAbs)++(⟨#[47]⟩:ByteArray)=Qs (Q7 x.num.natAbs++[47]):=Z5 (Q7 x.num.natAbs) [47]
  have hz5:(Qs (Q7 x.num.natAbs++[47])).size=(Q7 x.num.natAbs).length+1:=by rw[Xm]; simp
  have hy3:=Z5 (Q7 x.num.natAbs++[47]) (Q7 x.den)
  have hq2:(Q7 x.num.natAbs).length+1≤9223372036854775807:=by omega
  have hq3:(Q7 x.num.natAbs).length+1+1≤9223372036854775807:=by omega
  have hq4:(Q7 x.num.natAbs).length+1+(Q7 x.den).length≤9223372036854775807:=by omega
  have hq5:(Q7 x.num.natAbs).length+1+1+(Q7 x.den).length≤9223372036854775807:=by omega
  have HY3:=bx hy3
  clear hy3
  clear hj hn hd hT hl1 hl2 hc hxb
  go_enter Tryz.func64,Tryz.ntmps64
  go_wp2_with fail
  obtain⟨w1,e1,oP,b1,s1⟩:=Jh w [.bool false,.slice Ax1 (digs Qg x.num.natAbs).length cx1,.slice Ax2 (digs Qg x.den).length cx2] 42
  rw[e1]
  clear e1
  replace hx0:=hx0.below b1
  replace hxa:=hxa.below b1
  have B:=b1
  clear b1
  refine Calls.mono (Vm _ _ x.num.natAbs hxa HB.out.1 hj1) ?_
  rintro e w2 ⟨rfl,b2⟩
  replace hx0:=hx0.below b2
  replace hxa:=hxa.below b2
  replace oP:=oP.gone b2
  replace B:=B.trans (b2.mono B.size)
  clear b2
  clear hxa
  have k1:=oP.cell (i:=0) rfl
  have k2:=oP.cell (i:=1) rfl
  have k3:=oP.cell (i:=2) rfl
  go_wp2_with fail
  clear k1 k2 k3
  refine Calls.mono (Ks _ _ x hx0) ?_
  rintro e w3 ⟨vu,rfl,hu,b3⟩
  replace hx0:=hx0.below b3
  replace oP:=oP.gone b3
  replace B:=B.trans (b3.mono B.size)
  clear b3
  go_wp2_with fail
  refine Calls.mono (Wj _ 1 (by unfold Qb; omega)) ?_
  rintro e w4 ⟨vo,rfl,ho,b4⟩
  replace hx0:=hx0.below b4
  replace oP:=oP.gone b4
  replace hu:=hu.below b4
  replace B:=B.trans (b4.mono B.size)
  clear b4
  go_wp2_with fail
  have hc:=Wk _ _ _ x.den 1 hu ho
  rw[HC.out]at hc
  refine Calls.mono (hc) ?_
  rintro e w5 ⟨rfl,b5⟩
  replace hx0:=hx0.below b5
  replace oP:=oP.gone b5
  replace hu:=hu.below b5
  replace ho:=ho.below b5
  replace B:=B.trans (b5.mono B.size)
  clear b5
  clear hc hu ho
  have k4:=oP.cell (i:=0) rfl
  have k5:=oP.cell (i:=1) rfl
  have k6:=oP.cell (i:=2) rfl
  go_wp2_with fail
  clear k4 k5 k6
  refine Calls.mono (Ks _ _ x hx0) ?_
  rintro e w6 ⟨vu,rfl,hu,b6⟩
  replace hx0:=hx0.below b6
  replace oP:=oP.gone b6
  replace B:=B.trans (b6.mono B.size)
  clear b6
  go_wp2_with fail
  refine Calls.mono (Vm _ _ x.den hu HB.out.2 hj1) ?_
  rintro e w7 ⟨rfl,b7⟩
  replace hx0:=hx0.below b7
  replace oP:=oP.gone b7
  replace hu:=hu.below b7
  replace B:=B.trans (b7.mono B.size)
  clear b7
  go_wp2
  go_ret
  rw[HY3.out]
  refine⟨?_,B⟩
  simp

set_option maxHeartbeats 1000000 in
theorem ntext_01 (w:World) (v:Value) (x:Rat) (hx:IsRef w v x) {j:Nat} (hj:BdR j x) (hj1:j≤100000000) (hn:¬x.num<0) (hd:x.den=1):Calls Tryz.prog 64 #[v] w (Zz w (.string (Qs (Y8 x)))):=by
  obtain⟨vx1,vx2,rfl,hxa,hxb⟩:=id hx
  obtain⟨Ax1,cx1,rfl,_⟩:=id hxa
  obtain⟨Ax2,cx2,rfl,_⟩:=id hxb
  have HB:=bx hj
  have hx0:=hx
  clear hx
  have hT:Y8 x=Q7 x.num.natAbs:=by unfold Y8; rw[if_neg hn,if_pos hd]; simp
  rw[hT]
  rw[decide_eq_false hn]at hx0
  try rw[decide_eq_false hn]
  have hc:Xy x.den 1=0:=by unfold Xy; have:=x.den_pos; rw[if_neg (by omega),if_neg (by omega)]
  have HC:=bx hc
  have hl1:=Jd hj.1
  have hl2:=Jd hj.2
  have hz1:=Xm (Q7 x.num.natAbs)
  have hz2:=Xm (Q7 x.den)
  clear hj hn hd hT hl1 hl2 hc hxb
  go_enter Tryz.func64,Tryz.ntmps64
  go_wp2_with fail
  obtain⟨w1,e1,oP,b1,s1⟩:=Jh w [.bool false,.slice Ax1 (digs Qg x.num.natAbs).length cx1,.slice Ax2 (digs Qg x.den).length cx2] 42
  rw[e1]
  clear e1
  replace hx0:=hx0.below b1
  replace hxa:=hxa.below b1
  have B:=b1
  clear b1
  refine Calls.mono (Vm _ _ x.num.natAbs hxa HB.out.1 hj1) ?_
  rintro e w2 ⟨rfl,b2⟩
  replace hx0:=hx0.below b2
  replace hxa:=hxa.below b2
  replace oP:=oP.gone b2
  replace B:=B.trans (b2.mono B.size)
  clear b2
  clear hxa
  have k1:=oP.cell (i:=0) rfl
  have k2:=oP.cell (i:=1) rfl
  have k3:=oP.cell (i:=2) rfl
  go_wp2_with fail
  clear k1 k2 k3
  refine Calls.mono (Ks _ _ x hx0) ?_
  rintro e w3 ⟨vu,rfl,hu,b3⟩
  replace hx0:=hx0.below b3
  replace oP:=oP.gone b3
  replace B:=B.trans (b3.mono B.size)
  clear b3
  go_wp2_with fail
  refine Calls.mono (Wj _ 1 (by unfold Qb; omega)) ?_
  rintro e w4 ⟨vo,rfl,ho,b4⟩
  replace hx0:=hx0.below b4
  replace oP:=oP.gone b4
  replace hu:=hu.below b4
  replace B:=B.trans (b4.mono B.size)
  clear b4
  go_wp2_with fail
  have hc:=Wk _ _ _ x.den 1 hu ho
  rw[HC.out]at hc
  refine Calls.mono (hc) ?_
  rintro e w5 ⟨rfl,b5⟩
  replace hx0:=hx0.below b5
  replace oP:=oP.gone b5
  replace hu:=hu.below b5
  replace ho:=ho.below b5
  replace B:=B.trans (b5.mono B.size)
  clear b5
  clear hc hu ho
  go_wp2
  go_ret
  exact⟨rfl,B⟩

set_option maxHeartbeats 1000000 in
theorem ntext_10 (w:World) (v:Value) (x:Rat) (hx:IsRef w v x) {j:Nat} (hj:BdR j x) (hj1:j≤100000000) (hn:x.num<0) (hd:¬x.den=1):Calls Tryz.prog 64 #[v] w (Zz w (.string (Qs (Y8 x)))):=by
  obtain⟨vx1,vx2,rfl,hxa,hxb⟩:=id hx
  obtain⟨Ax1,cx1,rfl,_⟩:=id hxa
  obtain⟨Ax2,cx2,rfl,_⟩:=id hxb
  have HB:=bx hj
  have hx0:=hx
  clear hx
  have hT:Y8 x=45::(Q7 x.num.natAbs++47::Q7 x.den):=by unfold Y8; rw[if_pos hn,if_neg hd]; simp
  rw[hT]
  rw[decide_eq_true hn]at hx0
  try rw[decide_eq_true hn]
  have hc:Xy x.den 1=1:=by unfold Xy; have:=x.den_pos; rw[if_neg (by omega),if_pos (by omega)]
  have HC:=bx hc
  have hl1:=Jd hj.1
  have hl2:=Jd hj.2
  have hz1:=Xm (Q7 x.num.natAbs)
  have hz2:=Xm (Q7 x.den)
  have hy1:=Qdi (Q7 x.num.natAbs)
  have hz4:=Xm (45::Q7 x.num.natAbs)
  have hq1:1+(Q7 x.num.natAbs).length≤9223372036854775807:=by omega
  have hy2:Qs (45::Q7 x.num.natAbs)++(⟨#[47]⟩:ByteArray)=Qs (45::(Q7 x.num.natAbs++[47])):=Z5 (45::Q7 x.num.natAbs) [47]
  have hz5:(Qs (45::(Q7 x.num.natAbs++[47]))).size=(Q7 x.num.natAbs).length+1+1:=by rw[Xm]; simp
  have hy3:=Z5 (45::(Q7 x.num.natAbs++[47])) (Q7 x.den)
  have hq2:(Q7 x.num.natAbs).length+1≤9223372036854775807:=by omega
  have hq3:(Q7 x.num.natAbs).length+1+1≤9223372036854775807:=by omega
  have hq4:(Q7 x.num.natAbs).length+1+(Q7 x.den).length≤9223372036854775807:=by omega
  have hq5:(Q7 x.num.natAbs).length+1+1+(Q7 x.den).length≤9223372036854775807:=by omega
  have HY3:=bx hy3
  clear hy3
  clear hj hn hd hT hl1 hl2 hc hxb
  go_enter Tryz.func64,Tryz.ntmps64
  go_wp2_with fail
  obtain⟨w1,e1,oP,b1,s1⟩:=Jh w [.bool true,.slice Ax1 (digs Qg x.num.natAbs).length cx1,.slice Ax2 (digs Qg x.den).length cx2] 42
  rw[e1]
  clear e1
  replace hx0:=hx0.below b1
  replace hxa:=hxa.below b1
  have B:=b1
  clear b1
  refine Calls.mono (Vm _ _ x.num.natAbs hxa HB.out.1 hj1) ?_
  rintro e w2 ⟨rfl,b2⟩
  replace hx0:=hx0.below b2
  replace hxa:=hxa.below b2
  replace oP:=oP.gone b2
  replace B:=B.trans (b2.mono B.size)
  clear b2
  clear hxa
  have k1:=oP.cell (i:=0) rfl
  have k2:=oP.cell (i:=1) rfl
  have k3:=oP.cell (i:=2) rfl
  go_wp2_with fail
  clear k1 k2 k3
  refine Calls.mono (Ks _ _ x hx0) ?_
  rintro e w3 ⟨vu,rfl,hu,b3⟩
  replace hx0:=hx0.below b3
  replace oP:=oP.gone b3
  replace B:=B.trans (b3.mono B.size)
  clear b3
  go_wp2_with fail
  refine Calls.mono (Wj _ 1 (by unfold Qb; omega)) ?_
  rintro e w4 ⟨vo,rfl,ho,b4⟩
  replace hx0:=hx0.below b4
  replace oP:=oP.gone b4
  replace hu:=hu.below b4
  replace B:=B.trans (b4.mono B.size)
  clear b4
  go_wp2_with fail
  have hc:=Wk _ _ _ x.den 1 hu ho
  rw[HC.out]at hc
  refine Calls.mono (hc) ?_
  rintro e w5 ⟨rfl,b5⟩
  replace hx0:=hx0.below b5
  replace oP:=oP.gone b5
  replace hu:=hu.below b5
  replace ho:=ho.below b5
  replace B:=B.trans (b5.mono B.size)
  clear b5
  clear hc hu ho
  have k4:=oP.cell (i:=0) rfl
  have k5:=oP.cell (i:=1) rfl
  have k6:=oP.cell (i:=2) rfl
  go_wp2_with fail
  clear k4 k5 k6
  refine Calls.mono (Ks _ _ x hx0) ?_
  rintro e w6 ⟨vu,rfl,hu,b6⟩
  replace hx0:=hx0.below b6
  replace oP:=oP.gone b6
  replace B:=B.trans (b6.mono B.size)
  clear b6
  go_wp2_with fail
  refine Calls.mono (Vm _ _ x.den hu HB.out.2 hj1) ?_
  rintro e w7 ⟨rfl,b7⟩
  replace hx0:=hx0.below b7
  replace oP:=oP.gone b7
  replace hu:=hu.below b7
  replace B:=B.trans (b7.mono B.size)
  clear b7
  go_wp2
  go_ret
  rw[HY3.out]
  refine⟨?_,B⟩
  simp

set_option maxHeartbeats 1000000 in
theorem ntext_11 (w:World) (v:Value) (x:Rat) (hx:IsRef w v x) {j:Nat} (hj:BdR j x) (hj1:j≤100000000) (hn:x.num<0) (hd:x.den=1):Calls Tryz.prog 64 #[v] w (Zz w (.string (Qs (Y8 x)))):=by
  obtain⟨vx1,vx2,rfl,hxa,hxb⟩:=id hx
  obtain⟨Ax1,cx1,rfl,_⟩:=id hxa
  obtain⟨Ax2,cx2,rfl,_⟩:=id hxb
  have HB:=bx hj
  have hx0:=hx
  clear hx
  have hT:Y8 x=45::(Q7 x.num.natAbs):=by unfold Y8; rw[if_pos hn,if_pos hd]; simp
  rw[hT]
  rw[decide_eq_true hn]at hx0
  try rw[decide_eq_true hn]
  have hc:Xy x.den 1=0:=by unfold Xy; have:=x.den_pos; rw[if_neg (by omega),if_neg (by omega)]
  have HC:=bx hc
  have hl1:=Jd hj.1
  have hl2:=Jd hj.2
  have hz1:=Xm (Q7 x.num.natAbs)
  have hz2:=Xm (Q7 x.den)
  have hy1:=Qdi (Q7 x.num.natAbs)
  have hz4:=Xm (45::Q7 x.num.natAbs)
  have hq1:1+(Q7 x.num.natAbs).length≤9223372036854775807:=by omega
  clear hj hn hd hT hl1 hl2 hc hxb
  go_enter Tryz.func64,Tryz.ntmps64
  go_wp2_with fail
  obtain⟨w1,e1,oP,b1,s1⟩:=Jh w [.bool true,.slice Ax1 (digs Qg x.num.natAbs).length cx1,.slice Ax2 (digs Qg x.den).length cx2] 42
  rw[e1]
  clear e1
  replace hx0:=hx0.below b1
  replace hxa:=hxa.below b1
  have B:=b1
  clear b1
  refine Calls.mono (Vm _ _ x.num.natAbs hxa HB.out.1 hj1) ?_
  rintro e w2 ⟨rfl,b2⟩
  replace hx0:=hx0.below b2
  replace hxa:=hxa.below b2
  replace oP:=oP.gone b2
  replace B:=B.trans (b2.mono B.size)
  clear b2
  clear hxa
  have k1:=oP.cell (i:=0) rfl
  have k2:=oP.cell (i:=1) rfl
  have k3:=oP.cell (i:=2) rfl
  go_wp2_with fail
  clear k1 k2 k3
  refine Calls.mono (Ks _ _ x hx0) ?_
  rintro e w3 ⟨vu,rfl,hu,b3⟩
  replace hx0:=hx0.below b3
  replace oP:=oP.gone b3
  replace B:=B.trans (b3.mono B.size)
  clear b3
  go_wp2_with fail
  refine Calls.mono (Wj _ 1 (by unfold Qb; omega)) ?_
  rintro e w4 ⟨vo,rfl,ho,b4⟩
  replace hx0:=hx0.below b4
  replace oP:=oP.gone b4
  replace hu:=hu.below b4
  replace B:=B.trans (b4.mono B.size)
  clear b4
  go_wp2_with fail
  have hc:=Wk _ _ _ x.den 1 hu ho
  rw[HC.out]at hc
  refine Calls.mono (hc) ?_
  rintro e w5 ⟨rfl,b5⟩
  replace hx0:=hx0.below b5
  replace oP:=oP.gone b5
  replace hu:=hu.below b5
  replace ho:=ho.below b5
  replace B:=B.trans (b5.mono B.size)
  clear b5
  clear hc hu ho
  go_wp2
  go_ret
  exact⟨rfl,B⟩

theorem ntext_num (w:World) (v:Value) (x:Rat) (hx:IsRef w v x) {j:Nat} (hj:BdR j x) (hj1:j≤100000000):Calls Tryz.prog 64 #[v] w (Zz w (.string (Qs (Y8 x)))):=by
  by_cases hn:x.num<0
  · by_cases hd:x.den=1
    · exact ntext_11 w v x hx hj hj1 hn hd
    · exact ntext_10 w v x hx hj hj1 hn hd
  · by_cases hd:x.den=1
    · exact ntext_01 w v x hx hj hj1 hn hd
    · exact ntext_00 w v x hx hj hj1 hn hd
end Wx

namespace Wx
set_option maxRecDepth 100000
open Go Go.RowKit Go.Proofs

set_option maxHeartbeats 1000000 in
theorem is_yes (w:World) (vx vy:Value) (x:Rat) (hx:IsRat w vx x) (hy:IsRef w vy x) {j:Nat} (hj:BdR j x) (hj1:j≤100000000):Calls Tryz.prog 23 #[vx,vy] w (Zz w (.bool true)):=by
  obtain⟨vx1,vx2,rfl,hxa,hxb⟩:=id hx
  obtain⟨Ax1,cx1,rfl,_⟩:=id hxa
  obtain⟨Ax2,cx2,rfl,_⟩:=id hxb
  obtain⟨vy1,vy2,rfl,hya,hyb⟩:=id hy
  obtain⟨Ay1,cy1,rfl,_⟩:=id hya
  obtain⟨Ay2,cy2,rfl,_⟩:=id hyb
  have HB:=bx hj
  have hx0:=hx
  have hy0:=hy

  clear hj hx hy
  go_enter Tryz.func23,Tryz.ntmps23
  go_wp2_with fail
  obtain⟨w1,e1,o1,b1,s1⟩:=Jh w [.bool (decide (x.num<0)),.slice Ax1 (digs Qb x.num.natAbs).length cx1,.slice Ax2 (digs Qb (Qr x.den)).length cx2] 38
  obtain⟨w2,e2,o2,b2,s2⟩:=Jh w1 [.bool (decide (x.num<0)),.slice Ay1 (digs Qg x.num.natAbs).length cy1,.slice Ay2 (digs Qg x.den).length cy2] 42
  rw[e1,e2]
  rw[s1]at o2
  have p1:=(o1.gone b2)
  have p2:=o2
  have B0:=(b1.trans (b2.mono b1.size))
  have hS:∀w',HeldQ w [(w.heap.size,[.bool (decide (x.num<0)),.slice Ax1 (digs Qb x.num.natAbs).length cx1,.slice Ax2 (digs Qb (Qr x.den)).length cx2],38),(w.heap.size+1,[.bool (decide (x.num<0)),.slice Ay1 (digs Qg x.num.natAbs).length cy1,.slice Ay2 (digs Qg x.den).length cy2],42)] w'→HeldQ w [(w.heap.size,[.bool (decide (x.num<0)),.slice Ax1 (digs Qb x.num.natAbs).length cx1,.slice Ax2 (digs Qb (Qr x.den)).length cx2],38),(w.heap.size+1,[.bool (decide (x.num<0)),.slice Ay1 (digs Qg x.num.natAbs).length cy1,.slice Ay2 (digs Qg x.den).length cy2],42)] w'∧w'.cell? ⟨w.heap.size,0,none⟩=some (.bool (decide (x.num<0)))∧w'.cell? ⟨w.heap.size,1,none⟩=some (.slice Ax1 (digs Qb x.num.natAbs).length cx1)∧w'.cell? ⟨w.heap.size,2,none⟩=some (.slice Ax2 (digs Qb (Qr x.den)).length cx2)∧w'.cell? ⟨w.heap.size+1,0,none⟩=some (.bool (decide (x.num<0)))∧w'.cell? ⟨w.heap.size+1,1,none⟩=some (.slice Ay1 (digs Qg x.num.natAbs).length cy1)∧w'.cell? ⟨w.heap.size+1,2,none⟩=some (.slice Ay2 (digs Qg x.den).length cy2):=fun w' hh=>by
    have r1:=hh.at_ (p:=(w.heap.size,[.bool (decide (x.num<0)),.slice Ax1 (digs Qb x.num.natAbs).length cx1,.slice Ax2 (digs Qb (Qr x.den)).length cx2],38)) (by simp)
    have r2:=hh.at_ (p:=(w.heap.size+1,[.bool (decide (x.num<0)),.slice Ay1 (digs Qg x.num.natAbs).length cy1,.slice Ay2 (digs Qg x.den).length cy2],42)) (by simp)
    exact⟨hh,r1.cell (i:=0) rfl,r1.cell (i:=1) rfl,r1.cell (i:=2) rfl,r2.cell (i:=0) rfl,r2.cell (i:=1) rfl,r2.cell (i:=2) rfl⟩
  have hz:HeldQ w [(w.heap.size,[.bool (decide (x.num<0)),.slice Ax1 (digs Qb x.num.natAbs).length cx1,.slice Ax2 (digs Qb (Qr x.den)).length cx2],38),(w.heap.size+1,[.bool (decide (x.num<0)),.slice Ay1 (digs Qg x.num.natAbs).length cy1,.slice Ay2 (digs Qg x.den).length cy2],42)] w2:=⟨B0,by intro q hq; simp at hq; rcases hq with rfl|rfl; exact p1; exact p2⟩
  clear e1 e2 o1 b1 s1 p1 o2 b2 s2 p2
  clear B0
  have hz:=hz.drew
  go_region_held3 (fun w'=>HeldQ w [(w.heap.size,[.bool (decide (x.num<0)),.slice Ax1 (digs Qb x.num.natAbs).length cx1,.slice Ax2 (digs Qb (Qr x.den)).length cx2],38),(w.heap.size+1,[.bool (decide (x.num<0)),.slice Ay1 (digs Qg x.num.natAbs).length cy1,.slice Ay2 (digs Qg x.den).length cy2],42)] w'∧w'.cell? ⟨w.heap.size,0,none⟩=some (.bool (decide (x.num<0)))∧w'.cell? ⟨w.heap.size,1,none⟩=some (.slice Ax1 (digs Qb x.num.natAbs).length cx1)∧w'.cell? ⟨w.heap.size,2,none⟩=some (.slice Ax2 (digs Qb (Qr x.den)).length cx2)∧w'.cell? ⟨w.heap.size+1,0,none⟩=some (.bool (decide (x.num<0)))∧w'.cell? ⟨w.heap.size+1,1,none⟩=some (.slice Ay1 (digs Qg x.num.natAbs).length cy1)∧w'.cell? ⟨w.heap.size+1,2,none⟩=some (.slice Ay2 (digs Qg x.den).length cy2))
    (exact hS _ hz)
    (first
      |(go_at_call 34; (with_reducible refine Calls.mono (Qbf _ _ x (hx0.below hz.b) HB.out hj1) ?_); rintro e wz ⟨rfl,hb⟩; have hz:=HeldQ.call (And.intro hz trivial) hb)
      |(go_at_call 64; (with_reducible refine Calls.mono (ntext_num _ _ x (hy0.below hz.b) HB.out hj1) ?_); rintro e wz ⟨rfl,hb⟩; have hz:=HeldQ.call (And.intro hz trivial) hb))
  all_goals (
    go_wp2
    go_ret
    exact⟨rfl,hz.b⟩)
end Wx
