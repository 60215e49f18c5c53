import Derived.Test.YtikkgpljpglnbaaGreatJRM7
namespace Wx
set_option maxRecDepth 100000
open Go Go.RowKit Go.Proofs
theorem B5:∀x:Nat,0<x->x<2^64->x<2^Lib.bitLen x/\2^(Lib.bitLen x-1)<=x/\1<=Lib.bitLen x:=by
 intro x
 induction x using Nat.strongRecOn with
 |_ x ih=>
  intro h0 h1
  rw[Lib.bitLen_half x (by omega) h1]
  by_cases hx:x/2=0
  ·obtain rfl:x=1:=by omega
   refine⟨by decide,by decide,by decide⟩
  ·obtain⟨i1,i2,i3⟩:=ih (x/2) (by omega) (by omega) (by omega)
   generalize Lib.bitLen (x/2)=L at *
   obtain⟨M,rfl⟩:∃M,L=M+1:=⟨L-1,by omega⟩
   rw[show 1+(M+1)-1=M+1 by omega,show 1+(M+1)=(M+1)+1 by omega]
   rw[show M+1-1=M by omega]at i2
   rw[Nat.pow_succ]at *
   refine⟨by rw[Nat.pow_succ]; omega,by omega,by omega⟩
theorem Kf {x:Nat} (h0:0<x) (h1:x<b64):Lib.bitLen x<=64:=by
 rw[iL]at h1
 obtain⟨_,h2,h3⟩:=B5 x h0 h1
 rcases Nat.lt_or_ge 64 (Lib.bitLen x)with h|h
 ·have:2^64<=2^(Lib.bitLen x-1):=Nat.pow_le_pow_right (by omega) (by omega)
  omega
 ·exact h
variable {y:Nat}
theorem Ei (h0:0<y) (h1:y<b64):y*2^(64-Lib.bitLen y)<18446744073709551616/\9223372036854775808<=y*2^(64-Lib.bitLen y)/\64-Lib.bitLen y<64:=by
 have hle:=Kf h0 h1
 rw[iL]at h1
 obtain⟨h2,h3,h4⟩:=B5 y h0 h1
 have e1:2^Lib.bitLen y*2^(64-Lib.bitLen y)=18446744073709551616:=by rw[<-Nat.pow_add,show Lib.bitLen y+(64-Lib.bitLen y)=64 by omega]
 have e2:2^(Lib.bitLen y-1)*2^(64-Lib.bitLen y)=9223372036854775808:=by rw[<-Nat.pow_add,show Lib.bitLen y-1+(64-Lib.bitLen y)=63 by omega]
 refine⟨?_,?_,by omega⟩
 ·rw[<-e1]; exact Nat.mul_lt_mul_of_pos_right h2 (Nat.two_pow_pos _)
 ·rw[<-e2]; exact Nat.mul_le_mul_right _ h3
theorem PN (y:Nat) (h0:0<y) (hy:y<b64) (w:World):Calls Tryz.prog 97 #[.int .u64 (y:Int)] w λe w'=>e=.returned (.int .i64 ((64-Lib.bitLen y:Nat):Int))/\w=w':=by
 have hle:=Kf h0 hy
 unfold b64 at hy
 refine(Tryz.bits_LeadingZeros64 y w (by omega) (by omega)).mono λe w' ⟨he,hw⟩=>⟨?_,hw.symm⟩
 rw[he]
 refine mh ?_
 rw[Int.toNat_natCast]
 omega
theorem xI (x:Nat) (hx:x<18446744073709551616):bits BinOp.and .u64 (x:Int) 4294967295=((x%4294967296:Nat):Int):=by
 have h:=u64_and_nat x 4294967295 hx (by omega)
 rw[show((4294967295:Nat):Int)=4294967295 from rfl]at h
 rw[h]
 congr 1
 exact Nat.and_two_pow_sub_one_eq_mod x 32
variable {s:Nat}
theorem zR (h:y*2^s<18446744073709551616):IntKind.u64.wrap ((y:Int)*2^s)=((y*2^s:Nat):Int):=by
 have e:((y*2^s:Nat):Int)=(y:Int)*2^s:=by rw[Int.natCast_mul,Int.natCast_pow]; rfl
 rw[<-e,wrap_u64 (by omega) (by omega)]
theorem kr:IntKind.u64.wrap ((y:Int)*2^s)=((y*2^s%18446744073709551616:Nat):Int):=by
 have e:((y*2^s:Nat):Int)=(y:Int)*2^s:=by rw[Int.natCast_mul,Int.natCast_pow]; rfl
 rw[<-e,IntKind.wrap_u64]; omega
variable {hi lo:Nat}
theorem JB (h3:hi*2^s<18446744073709551616) (h4:lo/2^(64-s)<2^s) (hlo:lo<18446744073709551616):
  bits BinOp.or .u64 ((hi*2^s:Nat):Int) ((lo:Int)/2^(64-s))=((hi*2^s+lo/2^(64-s):Nat):Int):=by
 have e:((lo/2^(64-s):Nat):Int)=(lo:Int)/2^(64-s):=by rw[Int.natCast_ediv,Int.natCast_pow]; rfl
 rw[<-e,u64_or_nat _ _ h3 (Nat.lt_of_le_of_lt (Nat.div_le_self _ _) hlo),nat_join s _ _ (Nat.mul_mod_left _ _) h4]
theorem Kj (x:Nat):(x:Int)/4294967296=((x/4294967296:Nat):Int):=by omega
variable {Y u:Nat}
theorem Dl {u0:Nat} (h1:Y<18446744073709551616) (h2:9223372036854775808<=Y) (h3:u*18446744073709551616+u0%18446744073709551616=(hi*18446744073709551616+lo)*2^s) (h4:u<Y)
  (_:0<hi) (_:hi<y):
  Y%4294967296<=4294967295/\2147483648<=Y/4294967296/\Y/4294967296<=4294967295/\u0%18446744073709551616/4294967296<=4294967295/\u0%18446744073709551616%4294967296<=4294967295/\Y<=18446744073709551615/\u<Y /\
  Hid (Y=Y/4294967296*4294967296+Y%4294967296 /\
   u*18446744073709551616+(u0%18446744073709551616/4294967296*4294967296+u0%18446744073709551616%4294967296)=(hi*18446744073709551616+lo)*2^s):=by
 refine⟨by omega,by omega,by omega,by omega,by omega,by omega,h4,?_,?_⟩
 ·omega
 ·rw[<-h3]; omega
theorem zS (_:Y<=18446744073709551615) (_:u<Y) (_:2147483648<=y):IntKind.u64.wrap ((u:Int)/(y:Int))=((u/y:Nat):Int):=by
 have e:((u/y:Nat):Int)=(u:Int)/(y:Int):=Int.natCast_ediv _ _
 have h:=Nat.div_le_self u y
 rw[<-e]
 generalize u/y=q at *
 rw[wrap_u64 (by omega) (by omega)]
theorem zT (_:Y<=18446744073709551615) (_:u<Y) (_:2147483648<=y):IntKind.u64.wrap ((u:Int)-IntKind.u64.wrap (((u/y:Nat):Int)*(y:Int)))=((u%y:Nat):Int):=by
 have h:=Nat.div_add_mod u y
 rw[Nat.mul_comm]at h
 have e:((u/y*y:Nat):Int)=((u/y:Nat):Int)*(y:Int):=Int.natCast_mul _ _
 rw[<-e]
 generalize u/y*y=q at *
 generalize u%y=r at *
 rw[wrap_u64 (n:=(q:Int)) (by omega) (by omega),wrap_u64 (by omega) (by omega)]
 omega
variable {Q:Nat}
theorem C9 {c:Nat} (hQ:Q=(u*4294967296+c)/Y) (_:(Y:Int)<=18446744073709551615) (_:u<Y):
  IntKind.u64.wrap (IntKind.u64.wrap (IntKind.u64.wrap ((u:Int)*4294967296)+(c:Int))-IntKind.u64.wrap ((Q:Int)*(Y:Int)))=(((u*4294967296+c)%Y:Nat):Int):=by
 have h:=Nat.div_add_mod (u*4294967296+c) Y
 have hlt:(u*4294967296+c)%Y<Y:=Nat.mod_lt _ (by omega)
 rw[<-hQ,Nat.mul_comm]at h
 have e:((Q*Y:Nat):Int)=(Q:Int)*(Y:Int):=Int.natCast_mul _ _
 rw[<-e]
 generalize Q*Y=p at *
 generalize (u*4294967296+c)%Y=r at *
 simp only[IntKind.wrap_u64]
 omega
theorem Dm {c1 c0 R Q2:Nat} (hQ:Q=(u*4294967296+c1)/Y) (hR:R=(u*4294967296+c1)%Y) (VR:Q2=(R*4294967296+c0)/Y)
  (hF:u*18446744073709551616+(c1*4294967296+c0)=(hi*18446744073709551616+lo)*2^s) (hY:Y=y*2^s) (h0:0<Y):
  Q*4294967296+Q2=(hi*18446744073709551616+lo)/y/\(R*4294967296+c0)%Y/2^s=(hi*18446744073709551616+lo)%y:=by
 obtain⟨t1,t2⟩:=BM (u:=u) (n1:=c1) (n0:=c0) h0
 rw[<-hQ,<-hR,<-VR,hF]at t1
 rw[<-hR,hF]at t2
 rw[t1,t2,hY]
 exact JO
set_option maxHeartbeats 4000000 in
theorem Dk (w:World) (hi lo y:Nat) (hlo:lo<b64) (hy:y<b64) (hhi:hi<y) (h0:0<hi):
  Calls Tryz.prog 80 #[.int .u64 (hi:Int),.int .u64 (lo:Int),.int .u64 (y:Int)] w λe w'=>e=.returned (.tuple #[.int .u64 ((hi*b64+lo)/y:Nat),.int .u64 ((hi*b64+lo)%y:Nat)])/\w=w':=by
 obtain⟨t1,t2,t3⟩:=Ei (by omega) hy
 have Pr:=PN y (by omega) hy w
 have Mi:lo<18446744073709551616:=by simpa [b64] using hlo
 have hy':y<18446744073709551616:=by simpa [b64] using hy
 clear hlo hy
 obtain⟨s,hs⟩:∃s,s=64-Lib.bitLen y:=⟨_,rfl⟩
 rw[<-hs]at t1 t2 t3 Pr
 clear hs
 obtain⟨n1,n2,n3,n4⟩:=Ba t3 Mi t1 hhi
 have hb1:(((y:Nat):Int)==0)=false:=by simp; omega
 have hb2:(((hi:Nat):Int)==0)=false:=by simp; omega
 have EY:=Lib.hid (zR t1)
 have EH:=Lib.hid (zR n3)
 have EL:=Lib.hid (kr (y:=lo) (s:=s))
 have EO:=Lib.hid (JB n3 n4 Mi)
 have HZ:=Lib.hid Pr
 have Q3:=Lib.hid t1
 have TN:=Lib.hid t2
 have TJ:=Lib.hid n1
 have TK:=Lib.hid n2
 clear Pr t1 t2 n1 n2 n3 n4
 go_enter Tryz.func80,Tryz.ntmps80
 go_wp2_with fail
 refine HZ.out.mono ?_
 rintro e w' ⟨rfl,rfl⟩
 clear HZ
 go_upto_region 15 with fail
 have hl:lo*2^s%18446744073709551616<18446744073709551616:=Nat.mod_lt _ (by omega)
 rw[EY.out,EH.out,EL.out,EO.out,xI _ Q3.out,xI _ hl]
 rw[Kj (y*2^s),Kj (lo*2^s%18446744073709551616)]
 clear EY EH EL EO hb1 hb2 hl
 have HF:=Dl Q3.out TN.out TJ.out TK.out h0 hhi
 clear Q3 TN TJ TK
 obtain⟨Y,RQ⟩:∃Y,Y=y*2^s:=⟨_,rfl⟩
 rw[<-RQ]at HF ⊢
 have Vn:=Lib.hid RQ
 clear RQ
 generalize hi*2^s+lo/2^(64-s)=u at *
 generalize lo*2^s%18446744073709551616=u0 at *
 generalize Y/4294967296=eF at *
 generalize Y%4294967296=jk at *
 generalize u0/4294967296=c1 at *
 generalize u0%4294967296=c0 at *
 obtain⟨f1,f2,f3,f4,f5,f6,f7,HF⟩:=HF
 clear Mi hy' h0 hhi
 go_upto_block 0 with fail
 rw[zS f6 f7 f2,zT f6 f7 f2]
 have hN:(u*4294967296+c1)/Y<4294967296:=M3 f7 (by omega)
 have hY:=HF.out.1
 have HY:=Lib.hid hY
 obtain⟨Q,hQ⟩:∃Q,Q=(u*4294967296+c1)/Y:=⟨_,rfl⟩
 rw[<-hQ]at hN
 obtain⟨q,r,hq,hr,g1,g2,g3,g4⟩:=CS hQ HY.out (by omega) f2 f3 f7 (by omega)
 rw[hq,hr]
 have HQ:=Lib.hid hQ
 have QT:=Lib.hid (And.intro g1 g2)
 have HU:=Lib.hid f7
 have i1:(jk:Int)<=4294967295:=by omega
 have i2:(2147483648:Int)<=(eF:Int):=by omega
 have i3:(eF:Int)<=4294967295:=by omega
 have i4:(c1:Int)<=4294967295:=by omega
 have i5:(c0:Int)<=4294967295:=by omega
 have i6:(Y:Int)<=18446744073709551615:=by omega
 have i7:(u:Int)<(Y:Int):=by omega
 have i8:(Q:Int)<4294967296:=by omega
 have i9:(q:Int)<=4294967297:=by omega
 have i0:(r:Int)<=4294967295:=by omega
 clear hY hQ hq hr g1 g2 g3 g4 f1 f2 f3 f4 f5 f6 f7 hN
 go_cut [15] (λv w'=>w'=w/\v=.int .u64 (Q:Int))
 case first=>
  go_wp2_with fail
  go_loop [15,16] (λv15 v16=>∃q r:Nat,v15=.int .u64 (q:Int)/\v16=.int .u64 (r:Int)/\(q:Int)<=4294967297/\(r:Int)<=4294967295/\Hid (u=q*eF+r/\Q<=q)) (λv15 _=>(RowKit.intOf v15).toNat)
  case atStart=>exact⟨_,_,rfl,rfl,by omega,by omega,QT⟩
  case round=>
   clear QT i9 i0
   obtain⟨q,r,rfl,rfl,hq,hr,HI⟩:=hrel
   by_cases hbig:(4294967296:Int)<=(q:Int)
   ·have HD:=Lib.hid (wS HQ.out HY.out (by omega) HU.out (by omega) HI.out.1 (.inl (by omega)))
    by_cases Mc:(4294967296:Int)<=(r:Int)+(eF:Int)
    ·go_wp2
     go_meet
     case rel=>
      refine⟨rfl,?_⟩
      rw[<-oI HQ.out HY.out (by omega) (by omega) HI.out.1 HD.out (by omega) (by omega)]
      congr 1; omega
    ·go_wp2
     go_round
     case rel=>exact⟨q-1,r+eF,by congr 1; omega,by go_num,by omega,by omega,mR (by omega) HI.out.1,by have:=HD.out; omega⟩
     case measure=>simp[RowKit.intOf]; omega
   ·have e:((q*jk:Nat):Int)=(q:Int)*(jk:Int):=Int.natCast_mul _ _
    have hp:(q:Int)*(jk:Int)<=18446744073709551615:=by
     have:q*jk<=4294967295*4294967295:=Nat.mul_le_mul (by omega) (by omega)
     omega
    have WH:0<=(q:Int)*(jk:Int):=by omega
    by_cases hgt:4294967296*r+c1<q*jk
    ·have Sn:4294967296*(r:Int)+(c1:Int)<(q:Int)*(jk:Int):=by omega
     have hd:=wS HQ.out HY.out (by omega) HU.out (by omega) HI.out.1 (.inr hgt)
     have hq1:1<=q:=by omega
     have HD:=Lib.hid hd
     clear hd hgt e
     by_cases Mc:(4294967296:Int)<=(r:Int)+(eF:Int)
     ·go_wp2
      go_meet
      case rel=>
       refine⟨rfl,?_⟩
       rw[<-oI HQ.out HY.out (by omega) (by omega) HI.out.1 HD.out (by omega) (by omega)]
       congr 1; omega
     ·go_wp2
      go_round
      case rel=>exact⟨q-1,r+eF,by congr 1; omega,by go_num,by omega,by omega,mR (by omega) HI.out.1,by have:=HD.out; omega⟩
      case measure=>simp[RowKit.intOf]; omega
    ·have hle':¬(4294967296*(r:Int)+(c1:Int)<(q:Int)*(jk:Int)):=by omega
     have HL:Hid (q*jk<=4294967296*r+c1):=by show _<=_; omega
     clear hgt e
     go_wp2
     go_meet
     case rel=>
      refine⟨rfl,?_⟩
      rw[<-CT HQ.out HY.out (by omega) HI.out.1 HI.out.2 HL.out]
 case rest=>
  obtain⟨rfl,rfl⟩:=hcut
  clear QT i9 i0
  go_upto_region 22 with fail
  rw[C9 HQ.out i6 HU.out]
  obtain⟨R,hR⟩:∃R,R=(u*4294967296+c1)%Y:=⟨_,rfl⟩
  have Ui:R<Y:=by rw[hR]; exact Nat.mod_lt _ (by omega)
  rw[<-hR]
  have HR:=Lib.hid hR
  clear hR
  have i10:(R:Int)<(Y:Int):=by omega
  have J8:=Lib.hid Ui
  clear Ui
  go_upto_block 2 with fail
  rw[zS (Y:=Y) (by omega) (by omega) (by omega),zT (Y:=Y) (by omega) (by omega) (by omega)]
  obtain⟨Q2,hQ⟩:∃Q2,Q2=(R*4294967296+c0)/Y:=⟨_,rfl⟩
  have hN:Q2<4294967296:=by rw[hQ]; exact M3 J8.out (by omega)
  obtain⟨q,r,hq,hr,g1,g2,g3,g4⟩:=CS hQ HY.out (by omega) (by omega) (by omega) J8.out (by omega)
  rw[hq,hr]
  have Lm:=Lib.hid hQ
  have QU:=Lib.hid (And.intro g1 g2)
  have j8:(Q2:Int)<4294967296:=by omega
  have j9:(q:Int)<=4294967297:=by omega
  have j0:(r:Int)<=4294967295:=by omega
  clear hQ hq hr g1 g2 g3 g4 hN
  go_cut [18] (λv w'=>w'=wc/\v=.int .u64 (Q2:Int))
  case first=>
   go_wp2_with fail
   go_loop [18,16] (λv18 v16=>∃q r:Nat,v18=.int .u64 (q:Int)/\v16=.int .u64 (r:Int)/\(q:Int)<=4294967297/\(r:Int)<=4294967295/\Hid (R=q*eF+r/\Q2<=q)) (λv18 _=>(RowKit.intOf v18).toNat)
   case atStart=>exact⟨_,_,rfl,rfl,by omega,by omega,QU⟩
   case round=>
    clear QU j9 j0 i4 i7
    obtain⟨q,r,rfl,rfl,hq,hr,HI⟩:=hrel
    by_cases hbig:(4294967296:Int)<=(q:Int)
    ·have HD:=Lib.hid (wS Lm.out HY.out (by omega) J8.out (by omega) HI.out.1 (.inl (by omega)))
     by_cases Mc:(4294967296:Int)<=(r:Int)+(eF:Int)
     ·go_wp2
      go_meet
      case rel=>
       refine⟨rfl,?_⟩
       rw[<-oI Lm.out HY.out (by omega) (by omega) HI.out.1 HD.out (by omega) (by omega)]
       congr 1; omega
     ·go_wp2
      go_round
      case rel=>exact⟨q-1,r+eF,by congr 1; omega,by go_num,by omega,by omega,mR (by omega) HI.out.1,by have:=HD.out; omega⟩
      case measure=>simp[RowKit.intOf]; omega
    ·have e:((q*jk:Nat):Int)=(q:Int)*(jk:Int):=Int.natCast_mul _ _
     have hp:(q:Int)*(jk:Int)<=18446744073709551615:=by
      have:q*jk<=4294967295*4294967295:=Nat.mul_le_mul (by omega) (by omega)
      omega
     have WH:0<=(q:Int)*(jk:Int):=by omega
     by_cases hgt:4294967296*r+c0<q*jk
     ·have Sn:4294967296*(r:Int)+(c0:Int)<(q:Int)*(jk:Int):=by omega
      have hd:=wS Lm.out HY.out (by omega) J8.out (by omega) HI.out.1 (.inr hgt)
      have hq1:1<=q:=by omega
      have HD:=Lib.hid hd
      clear hd hgt e
      by_cases Mc:(4294967296:Int)<=(r:Int)+(eF:Int)
      ·go_wp2
       go_meet
       case rel=>
        refine⟨rfl,?_⟩
        rw[<-oI Lm.out HY.out (by omega) (by omega) HI.out.1 HD.out (by omega) (by omega)]
        congr 1; omega
      ·go_wp2
       go_round
       case rel=>exact⟨q-1,r+eF,by congr 1; omega,by go_num,by omega,by omega,mR (by omega) HI.out.1,by have:=HD.out; omega⟩
       case measure=>simp[RowKit.intOf]; omega
     ·have hle':¬(4294967296*(r:Int)+(c0:Int)<(q:Int)*(jk:Int)):=by omega
      have HL:Hid (q*jk<=4294967296*r+c0):=by show _<=_; omega
      clear hgt e
      go_wp2
      go_meet
      case rel=>
       refine⟨rfl,?_⟩
       rw[<-CT Lm.out HY.out (by omega) HI.out.1 HI.out.2 HL.out]
  case rest=>
   obtain⟨rfl,rfl⟩:=hcut
   clear QU j9 j0
   go_wp2
   obtain⟨e1,e2⟩:=Dm HQ.out HR.out Lm.out HF.out.2 Vn.out (by omega)
   rw[C9 Lm.out i6 J8.out]
   have ep:(((R*4294967296+c0)%Y/2^s:Nat):Int)=(((R*4294967296+c0)%Y:Nat):Int)/2^s:=by rw[Int.natCast_ediv,Int.natCast_pow]; rfl
   rw[<-ep,e2]
   rw[show(Q:Int)*4294967296+(Q2:Int)=(((hi*18446744073709551616+lo)/y:Nat):Int) by rw[<-e1,Int.natCast_add,Int.natCast_mul]; rfl]
   go_ret2
   exact⟨rfl,rfl⟩
theorem Ay (w:World) (lo y:Nat) (hlo:lo<b64) (h0:0<y):
  Calls Tryz.prog 80 #[.int .u64 0,.int .u64 (lo:Int),.int .u64 (y:Int)] w λe w'=>e=.returned (.tuple #[.int .u64 (lo/y:Nat),.int .u64 (lo%y:Nat)])/\∃m,w'=w.drewN m:=by
 have hb1:(((y:Nat):Int)==0)=false:=by simp; omega
 have wH:(1:Int)<=(y:Int):=by omega
 have hq:=Nat.div_le_self lo y
 have e1:((lo/y:Nat):Int)=(lo:Int)/(y:Int):=Int.natCast_ediv _ _
 have e2:((lo%y:Nat):Int)=(lo:Int)%(y:Int):=Int.natCast_emod _ _
 have e3:IntKind.u64.wrap ((lo:Int)/(y:Int))=((lo/y:Nat):Int):=by
  rw[<-e1]
  generalize lo/y=q at *
  rw[wrap_u64 (by omega) (by unfold b64 at hlo; omega)]
 have E2:=Lib.hid e2
 have E3:=Lib.hid e3
 clear e1 e2 e3 hq hlo
 go_enter Tryz.func80,Tryz.ntmps80
 go_wp2
 go_quiet (fail)
 go_wp2
 rw[E3.out,<-E2.out]
 go_ret2
 exact⟨rfl,_,rfl⟩
@[irreducible] def dvQ (hi lo y : Nat) : Nat := (hi * b64 + lo) / y
@[irreducible] def dvR (hi lo y : Nat) : Nat := (hi * b64 + lo) % y
theorem Cg (hlo:lo<b64) (hy:hi<y):dvQ hi lo y*y+dvR hi lo y=hi*b64+lo/\dvR hi lo y<y/\dvQ hi lo y<b64:=by
 unfold dvQ dvR
 have h:=Nat.div_add_mod (hi*b64+lo) y
 rw[Nat.mul_comm]at h
 refine⟨h,Nat.mod_lt _ (by omega),?_⟩
 rw[Nat.div_lt_iff_lt_mul (by omega),Nat.mul_comm b64]
 have:hi*b64+b64<=y*b64:=by rw[<-Nat.succ_mul]; exact Nat.mul_le_mul_right _ hy
 omega
theorem yb (w:World) (hi lo y:Nat) (hlo:lo<b64) (hy:y<b64) (hhi:hi<y):
  Calls Tryz.prog 80 #[.int .u64 (hi:Int),.int .u64 (lo:Int),.int .u64 (y:Int)] w (BX w (.tuple #[.int .u64 (dvQ hi lo y:Nat),.int .u64 (dvR hi lo y:Nat)])):=by
 unfold dvQ dvR
 rcases Nat.eq_zero_or_pos hi with rfl|h0
 ·rw[Nat.zero_mul,Nat.zero_add]
  exact Ay w lo y hlo hhi
 ·exact(Dk w hi lo y hlo hy hhi h0).mono λe w' ⟨he,hw⟩=>⟨he,0,hw.symm⟩
theorem Dj (w:World) (hi lo y:Nat) (hlo:lo<b64) (hy:y<b64) (hhi:hi<y):
  Calls Tryz.prog 80 #[.int .u64 (hi:Int),.int .u64 (lo:Int),.int .u64 (y:Int)] w (eZ w (.tuple #[.int .u64 (dvQ hi lo y:Nat),.int .u64 (dvR hi lo y:Nat)])):=
 (yb w hi lo y hlo hy hhi).mono λ_ _ h=>h.is
end Wx
