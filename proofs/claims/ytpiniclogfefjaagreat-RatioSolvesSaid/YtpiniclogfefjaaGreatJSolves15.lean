import Derived.Test.YtpiniclogfefjaaGreatJSolves14
import Derived.Test.YtpiniclogfefjaaGreatJSolves12
namespace Wx
set_option maxRecDepth 100000
open Go Go.RowKit Go.Proofs

@[irreducible] def npLo (x y u c : Nat) : Nat := (u + c + x * y) % 4294967296
@[irreducible] def npHi (x y u c : Nat) : Nat := (u + c + x * y) / 4294967296
theorem np_spec (x y u c:Nat):npLo x y u c+Qd*npHi x y u c=x*y+u+c:=by unfold npLo npHi Qd; omega
theorem npLo_lt (x y u c:Nat):npLo x y u c<Qd:=by unfold npLo Qd; omega
theorem npHi_lt {x y u c:Nat} (hx:x<Qd) (hy:y<Qd) (hu:u<Qd) (hc:c<Qd):npHi x y u c<Qd∧u+c+x*y<18446744073709551616:=by
 have hxy:x*y≤4294967295*4294967295:=Nat.mul_le_mul (by unfold Qd at hx; omega) (by unfold Qd at hy; omega)
 unfold Qd npHi at *
 omega
theorem nprod_round {w0 wr:World} {g:Nat} {o b:List Nat} {i k c vx vy vu s N:Nat} (hk:k<b.length) (hc:c<Qd) (hol:o.length=N) (hwo:Wf Qd o) (hx:vx<Qd) (hy:vy<Qd) (hu:vu<Qd)
  (hr:Row wr .u32 147 g o) (hg:w0.heap.size≤g) (hbl:Below w0.heap.size w0 wr) (hz:∀p,i+b.length+1≤p→o.getD p 0=0) (hz0:o.getD (i+b.length) 0=0) (hval:Qh Qd o+Qd^(i+k)*c=s+Qd^i*(vx*Qh Qd (b.take k)))
  (HU:o[i+k]?=some vu) (HY:b[k]?=some vy):
  ∃(o':List Nat),npHi vx vy vu c<Qd∧o'.length=N∧Wf Qd o' ∧
   Row (wr.setCell ⟨g,i+k,none⟩ (.int .u32 (npLo vx vy vu c:Nat))) .u32 147 g o'∧Below w0.heap.size w0 (wr.setCell ⟨g,i+k,none⟩ (.int .u32 (npLo vx vy vu c:Nat))) ∧
   (∀p,i+b.length+1≤p→o'.getD p 0=0)∧o'.getD (i+b.length) 0=0∧Qh Qd o'+Qd^(i+(k+1))*npHi vx vy vu c=s+Qd^i*(vx*Qh Qd (b.take (k+1))):=by
 refine⟨o.set (i+k) (npLo vx vy vu c),(npHi_lt hx hy hu hc).1,by simp[hol],hwo.set (npLo_lt _ _ _ _),hr.set _ _,hbl.setCell hg _,?_,?_,mul_step hval HU HY (np_spec _ _ _ _)⟩
 ·intro p hp
  rw[V4 (by omega)]; exact hz p hp
 ·rw[V4 (by omega)]; exact hz0
theorem nprod_carry {w0 wr:World} {g:Nat} {o b:List Nat} {i c vx s N:Nat} (hc:c<Qd) (hN:i+b.length<N) (hol:o.length=N) (hwo:Wf Qd o)
  (hr:Row wr .u32 147 g o) (hg:w0.heap.size≤g) (hbl:Below w0.heap.size w0 wr) (hz:∀p,i+b.length+1≤p→o.getD p 0=0) (hz0:o.getD (i+b.length) 0=0) (hval:Qh Qd o+Qd^(i+b.length)*c=s+Qd^i*(vx*Qh Qd (b.take b.length))):
  ∃(o':List Nat),o'.length=N∧Wf Qd o' ∧
   Row (wr.setCell ⟨g,i+b.length,none⟩ (.int .u32 (c:Nat))) .u32 147 g o'∧Below w0.heap.size w0 (wr.setCell ⟨g,i+b.length,none⟩ (.int .u32 (c:Nat))) ∧
   (∀p,i+b.length+1≤p→o'.getD p 0=0)∧Qh Qd o'+Qd^(i+(b.length+1))*0=s+Qd^i*(vx*Qh Qd (b.take (b.length+1))):=by
 refine⟨o.set (i+b.length) c,by simp[hol],hwo.set hc,hr.set _ _,hbl.setCell hg _,fun p hp=>by rw[V4 (by omega)]; exact hz p hp,?_⟩
 have hu:o[i+b.length]?=some 0:=by
  rw[List.getD_eq_getElem?_getD,List.getElem?_eq_getElem (by omega)]at hz0
  rw[List.getElem?_eq_getElem (by omega)]
  simpa using hz0
 have h1:=Qef (b:=Qd) hu c
 rw[Nat.mul_zero,Nat.add_zero]at h1
 rw[h1,hval,Nat.mul_zero,Nat.add_zero,List.take_length,List.take_of_length_le (by omega)]
theorem nprod_row {b:Nat} {o o0 x y:List Nat} {i vx n k:Nat} (hk:y.length≤k) (hval:Qh b o+b^(i+k)*0=Qh b o0+b^i*(vx*Qh b (y.take k))) (h0:Qh b o0=Qh b (x.take i)*n) (hb:Qh b y=n) (hx:x[i]?=some vx):
  Qh b o=Qh b (x.take (i+1))*n:=by
 rw[Nat.mul_zero,Nat.add_zero,List.take_of_length_le hk,hb]at hval
 rw[hval,h0,Jl hx,Nat.add_mul,Nat.mul_assoc]

theorem np_eqs {vx vy vu c:Nat} (hx:vx<Qd) (hy:vy<Qd) (hu:vu<Qd) (hc:c<Qd):
  IntKind.u64.wrap ((IntKind.u64.wrap ((vu:Int)+(c:Int)+IntKind.u64.wrap ((vx:Int)*(vy:Int)))).tdiv 4294967296)=((npHi vx vy vu c:Nat):Int) ∧
  (IntKind.u64.wrap ((vu:Int)+(c:Int)+IntKind.u64.wrap ((vx:Int)*(vy:Int)))).tmod 4294967296%4294967296=((npLo vx vy vu c:Nat):Int):=by
 obtain⟨h1,h2⟩:=npHi_lt hx hy hu hc
 have e0:IntKind.u64.wrap ((vx:Int)*(vy:Int))=((vx*vy:Nat):Int):=by
  rw[← Int.natCast_mul,wrap_u64 (by omega) (by omega)]
 have e:(vu:Int)+(c:Int)+((vx*vy:Nat):Int)=((vu+c+vx*vy:Nat):Int):=by omega
 rw[e0,e]
 unfold npLo npHi at *
 generalize vu+c+vx*vy=N at *
 unfold Qd at h1
 rw[wrap_u64 (n:=(N:Int)) (by omega) (by omega),Int.tdiv_eq_ediv_of_nonneg (by omega),Int.tmod_eq_emod_of_nonneg (by omega),wrap_u64 (by omega) (by omega)]
 omega

set_option maxHeartbeats 1000000 in
theorem Qhp (w:World) (v1 v2:Value) (m n:Nat) (h1:Num .u32 Qd w v1 m) (h2:Num .u32 Qd w v2 n) {j k:Nat} (hj:Bd j m) (hk:Bd k n) (hj1:j≤1000000000) (hk1:k≤1000000000):
  Calls Tryz.prog 88 #[v1,v2] w (RetNumG w (m*n)):=by
 obtain⟨A,c,rfl,ha⟩:=h1
 obtain⟨B,d,rfl,hb⟩:=h2
 have hla:=len32 hj
 have hlb:=len32 hk
 have hva:=Yg Qz m
 have hvb:=Yg Qz n
 have wa:=Yz Qz m
 have wb:=Yz Qz n
 clear hj hk
 go_enter Tryz.func88,Tryz.ntmps88
 generalize digs Qd m=a at *
 generalize digs Qd n=b at *
 have VA:=Lib.hid hva
 have VB:=Lib.hid hvb
 clear hva hvb
 have hla1:a.length≤100000000:=by omega
 have hlb1:b.length≤100000000:=by omega
 clear hla hlb
 go_wp2_with (at_make; refine Jm _ rfl _ _ _ rfl .u32 147 Tryz.underlying40 Qcj _ _ rfl rfl (by omega) (by omega) (by omega) ?_; intro w1 hrow hbel hsz)
 rw[show((a.length:Int)+(b.length:Int)).toNat=a.length+b.length by omega]at hrow
 go_loopw [6] (fun s6 wr=>∃(i:Nat) (o:List Nat),i≤a.length∧s6=.int .i64 i∧o.length=a.length+b.length∧Wf Qd o∧Row wr .u32 147 w.heap.size o∧Below w.heap.size w wr∧(∀p,i+b.length≤p→o.getD p 0=0)∧Qh Qd o=Qh Qd (a.take i)*n)
  (fun s6 _=>a.length-(intOf s6).toNat)
 case atStart=>exact⟨0,List.replicate (a.length+b.length) 0,by omega,rfl,by simp,Wf.replicate (by unfold Qd; omega) _,hrow,hbel,fun p _=>by simp[List.getD_eq_getElem?_getD,List.getElem?_replicate]; split<;>rfl,by rw[U5]; simp[Qh]⟩
 case round=>
  obtain⟨i,o,hi,rfl,hol,hwo,hr,hbl,hz,hval⟩:=hrel
  have HVAL:=Lib.hid hval
  have HOL:=Lib.hid hol
  have HZ:=Lib.hid hz
  clear hval hol hz hrow hbel hsz
  by_cases hlt:i<a.length
  ·obtain⟨gx,ox,vx,rfl,_,HVX⟩:=(ha.below hbl).get hlt
   have HLX:=Lib.hid (wa _ (List.mem_of_getElem? HVX.out))
   have hvx:=K6 HLX.out
   have hi0:(0:Int)≤(i:Int):=by omega
   have hi1:(i:Int)<(a.length:Int):=by omega
   go_wp2_with fail
   obtain⟨wo,rfl⟩:∃wo:World,wo=wr:=⟨_,rfl⟩
   go_loopw [7,8] (fun s7 s8 wr=>∃(k c:Nat) (o':List Nat),k≤b.length+1∧s8=.int .i64 k∧s7=.int .u64 c∧Bx (c<Qd∧(k=b.length+1→c=0))∧Bx (o'.length=a.length+b.length)∧Wf Qd o'∧Row wr .u32 147 w.heap.size o'∧Below w.heap.size w wr∧Bx (∀p,i+b.length+1≤p→o'.getD p 0=0)∧Bx (k≤b.length→o'.getD (i+b.length) 0=0)∧Bx (Qh Qd o'+Qd^(i+k)*c=Qh Qd o+Qd^i*(vx*Qh Qd (b.take k))))
    (fun _ s8 _=>b.length+1-(intOf s8).toNat)
   case atStart=>exact⟨0,0,o,by omega,rfl,rfl,bx ⟨by unfold Qd; omega,by omega⟩,bx HOL.out,hwo,hr,hbl,bx (fun p hp=>HZ.out p (by omega)),bx (fun _=>HZ.out _ (Nat.le_refl _)),bx (by simp[Qh])⟩
   case round=>
    clear hr hwo
    obtain⟨k,c,o',hk,rfl,rfl,HC,HOL',hwo',hr',hbl',HZ',HZ0,HVAL'⟩:=hrel
    have hcx:=((ha.below hbl').at_ hlt)
    by_cases hlk:k<b.length
    ·obtain⟨b1,o1,e1,hcx⟩:=hcx
     injection e1 with e1
     injection e1 with e1 e2
     subst e1 e2
     rw[List.getD_eq_getElem?_getD,HVX.out,Option.getD_some]at hcx
     obtain⟨by_,oy,vy,rfl,hcy,HVY⟩:=(hb.below hbl').get hlk
     obtain⟨vu,hcu,HVU⟩:=hr'.get (i:=i+k) (by have:=HOL'.out; omega)
     have hcf:=hr'.frozen (i+k)
     have HLY:=Lib.hid (wb _ (List.mem_of_getElem? HVY.out))
     have HLU:=Lib.hid (hwo' _ (List.mem_of_getElem? HVU.out))
     have hvy:=K6 HLY.out
     have hvu:=K6 HLU.out
     have hvc:=K6 HC.out.1
     have hk0:(0:Int)≤(k:Int):=by omega
     have hk1:(k:Int)<(b.length:Int):=by omega
     obtain⟨q1,q2⟩:=np_eqs HLX.out HLY.out HLU.out HC.out.1
     have Q1:=bx q1
     have Q2:=bx q2
     clear q1 q2
     go_wp2
     go_quiet (fail)
     go_wp2
     rw[Q1.out,Q2.out]
     go_roundw
     case rel=>
      obtain⟨o2,hc2,hl2,hw2,hr2,hb2,hz2,hz3,hv2⟩:=nprod_round hlk HC.out.1 HOL'.out hwo' HLX.out HLY.out HLU.out (hr'.drewN nq) (Nat.le_refl _) (below_drewN hbl' nq) HZ'.out (HZ0.out (by omega)) HVAL'.out HVU.out HVY.out
      exact⟨k+1,_,o2,by omega,by go_num,rfl,bx ⟨hc2,fun h=>by omega⟩,bx hl2,hw2,hr2,hb2,bx hz2,bx (fun _=>hz3),bx hv2⟩
     case measure=>(simp[intOf]; try omega)
    ·clear hcx
     by_cases hkb:k=b.length
     ·subst hkb
      rcases Nat.eq_zero_or_pos c with rfl|hc0
      ·go_wp2
       go_roundw
       case rel=>
        exact⟨i+1,o',by omega,by go_num,HOL'.out,hwo',hr',hbl',fun p hp=>by
         rcases Nat.lt_or_ge p (i+b.length+1)with h|h
         ·have:=HZ0.out (Nat.le_refl _)
          omega
         ·exact HZ'.out p h,nprod_row (Nat.le_refl _) HVAL'.out HVAL.out VB.out HVX.out⟩
       case measure=>(simp[intOf]; try omega)
      ·obtain⟨vu,hcu,HVU⟩:=hr'.get (i:=i+b.length) (by have:=HOL'.out; omega)
       have hcf:=hr'.frozen (i+b.length)
       have hu0:vu=0:=by
        have h:=HZ0.out (Nat.le_refl _)
        rw[List.getD_eq_getElem?_getD,HVU.out]at h
        simpa using h
       subst hu0
       have hvc:=K6 HC.out.1
       have hc1:(0:Int)<(c:Int):=by omega
       have C1:=bx (show(c:Int)/4294967296=((0:Nat):Int) by omega)
       have C2:=bx (show(c:Int)%4294967296=(c:Int) by omega)
       go_wp2
       rw[C1.out,C2.out]
       go_roundw
       case rel=>
        obtain⟨o2,hl2,hw2,hr2,hb2,hz2,hv2⟩:=nprod_carry HC.out.1 (by omega) HOL'.out hwo' hr' (Nat.le_refl _) hbl' HZ'.out (HZ0.out (Nat.le_refl _)) HVAL'.out
        exact⟨b.length+1,0,o2,by omega,by go_num,rfl,bx ⟨by unfold Qd; omega,fun _=>rfl⟩,bx hl2,hw2,hr2,hb2,bx hz2,bx (fun h=>by omega),bx hv2⟩
       case measure=>(simp[intOf]; try omega)
     ·obtain rfl:k=b.length+1:=by omega
      obtain rfl:c=0:=HC.out.2 rfl
      go_wp2
      go_roundw
      case rel=>
       exact⟨i+1,o',by omega,by go_num,HOL'.out,hwo',hr',hbl',fun p hp=>HZ'.out p (by omega),nprod_row (by omega) HVAL'.out HVAL.out VB.out HVX.out⟩
      case measure=>(simp[intOf]; try omega)
  ·obtain rfl:i=a.length:=by omega
   have hfin:Qh Qd o=m*n:=by
    have h:=HVAL.out
    rw[List.take_length,VA.out]at h
    exact h
   have HF:=Lib.hid hfin
   clear hfin
   have hrd:=hr.rd_all (c:=a.length+b.length) (by have:=HOL.out; omega) (by unfold maxLen; omega)
   go_wp2_with fail
   refine(Qhk _ _ _ o (m*n) hrd hwo _ HOL.out HF.out).mono ?_
   rintro e w' ⟨rfl,kn,rfl,hv⟩
   go_wp2
   go_ret
   exact⟨_,_,_,Nat.le_refl _,rfl,hv,hbl⟩
theorem Qa9 (w:World) (v1 v2:Value) (m n:Nat) (h1:Num .u32 Qd w v1 m) (h2:Num .u32 Qd w v2 n) {j k:Nat} (hj:Bd j m) (hk:Bd k n) (hj1:j≤1000000000) (hk1:k≤1000000000):
  Calls Tryz.prog 88 #[v1,v2] w (J6 .u32 Qd w (m*n)):=(Qhp w v1 v2 m n h1 h2 hj hk hj1 hk1).mono fun _ _ h=>h.num
end Wx

namespace Wx
set_option maxRecDepth 100000
open Go Go.RowKit Go.Proofs

theorem nbits_digs {n t:Nat} (h0:0<n) (ht:(digs Qd n)[(digs Qd n).length-1]?=some t):Xu n=32*((digs Qd n).length-1)+Xu t:=by
 have hl:=(Xh (n:=n) Qz).2 h0
 have hw:=Yz Qz n
 have htop:=Qct Qz n
 have hv:=Yg Qz n
 have ht2:=ht
 obtain⟨hi,e⟩:=List.getElem?_eq_some_iff.1 ht
 have ht0:0<t:=by
  rcases Nat.eq_zero_or_pos t with h|h
  ·exfalso
   apply htop
   rw[List.getLast?_eq_getElem?,ht,h]
  ·exact h
 have e1:=Z4 Qd (digs Qd n) ((digs Qd n).length-1) (by omega)
 rw[Qda Qd _ _ hi,e,List.drop_of_length_le (by omega),val_nil,Nat.mul_zero,Nat.add_zero,hv]at e1
 have hlow:=Vc (hw.take ((digs Qd n).length-1))
 rw[List.length_take,Nat.min_eq_left (by omega)]at hlow
 have hp:Qd^((digs Qd n).length-1)=2^(32*((digs Qd n).length-1)):=by rw[b32_pow,← Nat.pow_mul]
 rw[hp]at e1 hlow
 exact nbits_mul_add ht0 hlow e1

theorem Qf9 (w:World) (v:Value) (n:Nat) (h:Num .u32 Qd w v n) {j:Nat} (hj:Bd j n) (hj1:j≤1000000000):Calls Tryz.prog 136 #[v] w fun e w'=>e=.returned (.int .i64 (Xu n:Nat))∧w=w':=by
 obtain⟨A,c,rfl,ha⟩:=h
 have hl:=len32 hj
 rcases Nat.eq_zero_or_pos n with rfl|h0
 ·rw[Yo,Qcn]
  go_enter Tryz.func136,Tryz.ntmps136
  go_wp2
  go_ret
  exact⟨rfl,rfl⟩
 ·have hlp:=(Xh (n:=n) Qz).2 h0
  obtain⟨b,o,t,rfl,hc,HT⟩:=ha.get (i:=(digs Qd n).length-1) (by omega)
  have HN:=bx (nbits_digs h0 HT.out)
  have hbt:=K6 (Yz Qz n _ (List.mem_of_getElem? HT.out))
  have HNB:=bx (show Xu n≤1000000000 from Nat.le_trans (Qex hj) hj1)
  clear HT ha hj h0
  have hll:(digs Qd n).length≤100000000:=by omega
  clear hl
  generalize (digs Qd n).length=L at *
  obtain⟨K,rfl⟩:∃K,L=K+1:=⟨L-1,by omega⟩
  rw[Nat.add_sub_cancel]at hc HN
  have hk1:(K:Int)≤100000000:=by omega
  clear hll hlp
  have hk0:(((K+1:Nat):Int)==0)=false:=beq_eq_false_iff_ne.2 (by omega)
  go_enter Tryz.func136,Tryz.ntmps136
  go_wp2_with fail
  go_loop [3,4] (fun s3 s4=>∃(m x:Nat),s3=.int .i64 (m:Int)∧s4=.int .u32 (x:Int)∧Bx (Xu n=m+Xu x)∧(x:Int)≤4294967295) (fun _ s4=>(intOf s4).toNat)
  case atStart=>exact⟨32*K,t,by go_num,rfl,HN,hbt⟩
  case round=>
   obtain⟨m,x,rfl,rfl,HX,hx⟩:=hrel
   have hm:(m:Int)≤4000000000:=by have:=HX.out; have:=HNB.out; omega
   rcases Nat.eq_zero_or_pos x with rfl|hx0
   ·have e:=HX.out
    rw[Qcn,Nat.add_zero]at e
    have E:=bx e
    clear e
    go_wp2
    go_ret
    exact⟨Up (by rw[E.out]),rfl⟩
   ·have hx1:(0:Int)<(x:Int):=by omega
    have e:=HX.out
    rw[nbits_half hx0]at e
    have E:=bx e
    clear e
    go_wp2
    go_round
    case rel=>exact⟨m+1,x/2,by go_num,by go_num,bx (by rw[E.out]; omega),by omega⟩
    case measure=>simp[intOf]; omega

theorem wpList_mk_own {P:Program} (w:World) {ops:Array Oper} {rest:List Oper} {o:Oper} {a:Act} {Q:Exit→Act→World→Prop}
  (hg:o.guard=none) (l c:Operand) (t:TypeId) (hop:o.op=Op.makeSlice t l c)
  (k:IntKind) (e:TypeId) (h1:P.underlying t=some (.slice e)) (hi:(P.info? e).map (fun i=>(i.zero,i.size,decide (i.bytes≤8)))=some (some (.int k 0),1,true))
  (C:Nat) (hl:a.eval l=.int .i64 C) (hc:a.eval c=.int .i64 C) (hC:C≤1099511627776)
  (hK:∀w',w'.ownsRow w.heap.size e 1 (.slice (some ⟨w.heap.size,0,none⟩) C C) C (J9 k (List.replicate C 0))→Below w.heap.size w w'→w'.heap.size=w.heap.size+1→wpList P ops Q rest (a.put o.dst (.slice (some ⟨w.heap.size,0,none⟩) C C)) w'):
  wpList P ops Q (o::rest) a w:=by
 obtain⟨i,h2,hzz⟩:=Option.map_eq_some_iff.1 hi
 simp only[Prod.mk.injEq,decide_eq_true_eq]at hzz
 obtain⟨hz,hs,hb⟩:=hzz
 refine wpList_plain hg fun K hK'=>?_
 have hbytes:(i.bytes:Int)*(C:Int)≤281474976710656:=by
  have h8:(i.bytes:Int)≤8:=by omega
  have:=Int.mul_le_mul_of_nonneg_right h8 (show 0≤(C:Int) by omega)
  omega
 have hrun:=run_make (P:=P) w t e i (.int k 0) h1 h2 hz .i64 .i64 C C (by omega) (by omega) hbytes (by omega)
 rw[hs,Nat.mul_one]at hrun
 unfold Oper.wp
 simp only[execOp,hop,hl,hc,Sem.run_bind,hrun,Result.andThen]
 simp only[Sem.run_pure,Oper.upon]
 refine hK' _ _ (hK _ ?_ ((Below.refl _ _).alloc (Nat.le_refl _) _) (by simp))
 simp only[Value.cells,Qg3,Int.toNat_natCast]
 refine⟨by simp[W0],.inr ⟨w.heap.size,C,_,rfl,Nat.le_refl _,heap_alloc_new _ _,Nat.le_refl _,by unfold maxLen; omega,by simp[W0],by rw[Nat.mul_one,List.toList_toArray,List.take_of_length_le (by simp[W0])]⟩⟩
theorem top_append {l r:List Nat} (h:r≠[]) (ht:Top r):Top (l++r):=by
 unfold Top at *
 rw[List.getLast?_append]
 obtain⟨x,hx⟩:∃x,r.getLast?=some x:=⟨r.getLast h,List.getLast?_eq_some_getLast h⟩
 rw[hx]at ht ⊢
 simpa using ht
theorem shift_digs {n k:Nat} (h:0<n):List.replicate k 0++digs Qd n=digs Qd (Qd^k*n):=by
 have hne:digs Qd n≠[]:=List.length_pos_iff.1 ((Xh Qz).2 h)
 have e:Qh Qd (List.replicate k 0++digs Qd n)=Qd^k*n:=by
  rw[Qa1,U5,List.length_replicate,Nat.zero_add,Yg Qz]
 rw[← e]
 exact(Qeq Qz ((Wf.replicate (by unfold Qd; omega) k).append (Yz Qz n)) (top_append hne (Qct Qz n))).symm

set_option maxHeartbeats 1000000 in
theorem shifted_numG (w:World) (v:Value) (n k:Nat) (h:Num .u32 Qd w v n) (h0:0<n) {j:Nat} (hj:Bd j n) (hj1:j≤100000000) (hk:k≤100000000):Calls Tryz.prog 137 #[v,.int .i64 (k:Int)] w (RetNumG w (n*2^k)):=by
 obtain⟨A,c,rfl,ha⟩:=h
 have hl:=len32 hj
 have hlp:=(Xh (n:=n) Qz).2 h0
 obtain⟨b,o,t,rfl,_,_⟩:=ha.get (i:=0) hlp
 have hll:(digs Qd n).length≤100000000:=by omega
 clear hl
 have HE:=bx (shift_digs (k:=k/32) h0)
 have HP:=bx (show Qd^(k/32)*n*2^(k%32)=n*2^k by
  rw[b32_pow,← Nat.pow_mul,Nat.mul_comm (2^(32*(k/32))) n,Nat.mul_assoc,← Nat.pow_add,Nat.div_add_mod])
 have HJ:Bx (Bd (k+j) (Qd^(k/32)*n)):=bx (by
  have e:Qd^(k/32)=2^(32*(k/32)):=by rw[b32_pow,← Nat.pow_mul]
  have h2:=hj
  unfold Bd at *
  rw[e,Nat.pow_add]
  have h3:2^(32*(k/32))≤2^k:=Nat.pow_le_pow_right (by omega) (by omega)
  exact Nat.lt_of_le_of_lt (Nat.mul_le_mul_right _ h3) (Nat.mul_lt_mul_of_pos_left h2 (Nat.two_pow_pos k)))
 clear hj
 generalize digs Qd n=l at *
 go_enter Tryz.func137,Tryz.ntmps137
 go_wp2_with (first
  |(at_make; refine wpList_mk_own _ rfl _ _ _ rfl .u32 147 Tryz.underlying40 Qcj (k/32) rfl rfl (by omega) ?_; intro w1 hown hbel hsz; have hown:w1.ownsRow w.heap.size 147 1 (.slice (some ⟨w.heap.size,0,none⟩) (k/32) (k/32)) (List.replicate (k/32) 0).length (J9 .u32 (List.replicate (k/32) 0)):=by rw[List.length_replicate]; exact hown)
  |(at_builtin; refine Qg1 _ rfl (.tmp 9) (.tmp 10) _ rfl .u32 147 w.heap.size Tryz.underlying40 Qcj (.slice (some ⟨w.heap.size,0,none⟩) (k/32) (k/32)) (List.replicate (k/32) 0) rfl hown _ _ _ l _ rfl rfl (ha.below hbel) (by simp; omega) (by have:=hbel.size; omega) ?_; intro U A4 c4 w4 HU hown4 hg4))
 have hp2:2^(k%32)<2^32:=Nat.pow_lt_pow_right (by omega) (by omega)
 have W2:=bx (show IntKind.u64.wrap ((2:Int)^(k%32))=((2^(k%32):Nat):Int) by
  have e:((2:Int)^(k%32))=((2^(k%32):Nat):Int):=by simp
  rw[e]
  generalize 2^(k%32)=P at hp2 ⊢
  exact wrap_u64 (by omega) (by omega))
 rw[W2.out]
 have hB4:Below w.heap.size w w4:=hbel.grown hg4 (by omega) (by intro g hg; simp[Value.ownBlock]at hg; omega)
 have hN:Num .u32 Qd w4 (.slice A4 U.length c4) (Qd^(k/32)*n):=⟨A4,c4,by rw[HU.out,HE.out],by rw[← HE.out,← HU.out]; exact rd_of_owns hown4⟩
 refine Calls.mono (Vi w4 (2^(k%32)) (by unfold Qa; omega)) ?_
 rintro e w5 ⟨v5,rfl,h5,hb5⟩
 clear hp2
 go_wp2_with fail
 refine Calls.mono (Qhp w5 _ _ _ _ (hN.below hb5) h5 (j:=k+j) (k:=32) (HJ.out) (Nat.pow_lt_pow_right (by omega) (by omega)) (by omega) (by omega)) ?_
 rintro e w6 ⟨g6,L6,c6,hg6,rfl,h6,hb6⟩
 go_wp2
 go_ret
 rw[HP.out]at h6
 exact⟨g6,_,_,Nat.le_trans (Nat.le_trans hB4.size hb5.size) hg6,rfl,h6,(hB4.trans (hb5.mono hB4.size)).trans (hb6.mono (Nat.le_trans hB4.size hb5.size))⟩
end Wx

namespace Wx
set_option maxRecDepth 100000
open Go Go.RowKit Go.Proofs

theorem val_drop_mod2 {l:List Nat} {i:Nat}:Qh Qd (l.drop i)%2=l.getD i 0%2:=by
 by_cases h:i<l.length
 ·rw[Qda Qd l i h,List.getD_eq_getElem?_getD,List.getElem?_eq_getElem h,Option.getD_some]
  unfold Qd; omega
 ·rw[List.drop_of_length_le (by omega),List.getD_eq_getElem?_getD,List.getElem?_eq_none (by omega)]; rfl
theorem Qgg {a o:List Nat} {i x y d z L g T:Nat} {wr w0:World} (hol:o.length=i) (hlt:i<L) (hwo:Wf Qd o) (hwa:Wf Qd a) (hx:a[i]?=some x) (hy:a.getD (i+1) 0=y) (hd:y%2=d) (hz:z=x/2+2147483648*d)
  (hr:Row wr .u32 147 g ((o++List.replicate (L-i) 0).set i z)) (hbl:Below w0.heap.size w0 wr)
  (hval:Qh Qd o+Qd^i*(Qh Qd (a.drop i)/2)=T):
  ∃(o':List Nat),o'.length=i+1∧Wf Qd o'∧Row wr .u32 147 g (o'++List.replicate (L-(i+1)) 0)∧Below w0.heap.size w0 wr∧Qh Qd o'+Qd^(i+1)*(Qh Qd (a.drop (i+1))/2)=T:=by
 have hxb:x<Qd:=hwa _ (List.mem_of_getElem? hx)
 have hzb:z<Qd:=by
  subst hz
  have:d≤1:=by omega
  unfold Qd at *; omega
 refine⟨o++[z],by simp[hol],hwo.append (Wf.cons hzb (Wf.nil _)),?_,hbl,?_⟩
 ·rw[show L-i=(L-(i+1))+1 by omega,List.replicate_succ,Qb5 hol]at hr
  rw[List.append_assoc]
  exact hr
 ·rw[← hval,Qdb,hol,Qdq hx,Qc9]
  have hm:=val_drop_mod2 (l:=a) (i:=i+1)
  rw[hy,hd]at hm
  have h:=half_step (x:=x) hm
  have e:Qd=4294967296:=rfl
  rw[← e]at h
  rw[h,← hz,Nat.pow_succ,Nat.mul_assoc,Nat.mul_add]
  omega

set_option maxHeartbeats 1000000 in
theorem Qih (w:World) (v:Value) (n:Nat) (h:Num .u32 Qd w v n) {j:Nat} (hj:Bd j n) (hj1:j≤1000000000):Calls Tryz.prog 138 #[v] w (RetNumG w (n/2)):=by
 obtain⟨A,c,rfl,ha⟩:=h
 have hl:=len32 hj
 have hva:=Yg Qz n
 have wa:=Yz Qz n
 clear hj
 generalize digs Qd n=a at *
 have hla:a.length≤100000000:=by omega
 clear hl
 have VA:=bx hva
 clear hva
 go_enter Tryz.func138,Tryz.ntmps138
 go_wp2_with (at_make; refine Jm _ rfl _ _ _ rfl .u32 147 Tryz.underlying40 Qcj _ _ rfl rfl (by omega) (by omega) (by omega) ?_; intro w1 hrow hbel hsz)
 rw[Int.toNat_natCast]at hrow
 go_loopw [4] (fun s4 wr=>∃(i:Nat) (o:List Nat),i≤a.length∧s4=.int .i64 i∧o.length=i∧Wf Qd o∧Row wr .u32 147 w.heap.size (o++List.replicate (a.length-i) 0)∧Below w.heap.size w wr∧Qh Qd o+Qd^i*(Qh Qd (a.drop i)/2)=n/2)
  (fun s4 _=>a.length-(intOf s4).toNat)
 case atStart=>exact⟨0,[],by omega,rfl,rfl,Wf.nil _,by simpa using hrow,hbel,by simp[Qh]; rw[VA.out]⟩
 case round=>
  obtain⟨i,o,hi,rfl,hol,hwo,hr,hbl,hval⟩:=hrel
  have HVAL:=bx hval
  have HOL:=bx hol
  clear hval hol hrow hbel hsz
  by_cases hlt:i<a.length
  ·obtain⟨gx,ox,x,rfl,hcx,HVX⟩:=(ha.below hbl).get hlt
   obtain⟨vo,hco,HVO⟩:=hr.get (i:=i) (by have:=HOL.out; simp; omega)
   have hcf:=hr.frozen i
   have hi0:(0:Int)≤(i:Int):=by omega
   have hi1:(i:Int)<(a.length:Int):=by omega
   have hx1:=K6 (wa _ (List.mem_of_getElem? HVX.out))
   obtain⟨b2,o2,e2,hcw⟩:=ha.at_ hlt
   injection e2 with e2
   injection e2 with e1 e2
   subst e1 e2
   have hgx:=World.block_lt_of_cell? w _ hcw
   have hne:gx≠w.heap.size:=by
    have:gx<w.heap.size:=hgx
    omega
   clear hcw hgx
   have hx2:(0:Int)≤(x:Int)/2:=by omega
   have hrs:∀z:Nat,Row (wr.setCell ⟨w.heap.size,i,none⟩ (.int .u32 (z:Int))) .u32 147 w.heap.size ((o++List.replicate (a.length-i) 0).set i z):=fun z=>hr.set i z
   have HRS:=bx hrs
   have HBS:Bx (∀u,Below w.heap.size w (wr.setCell ⟨w.heap.size,i,none⟩ u)):=bx (fun u=>hbl.setCell (Nat.le_refl w.heap.size) u)
   clear hrs
   by_cases hn:i+1<a.length
   ·obtain⟨gy,oy,y,e1,hcy,HVY⟩:=(ha.below hbl).get hn
    injection e1 with e1
    injection e1 with e1 e2
    subst e1 e2
    have hcy':(wr.setCell ⟨w.heap.size,i,none⟩ (.int .u32 ((x:Int)/2))).cell? ⟨gx,ox+(i+1),none⟩=some (.int .u32 (y:Int)):=by
     rw[World.cell?_of_block (Below.heap_setCell wr ⟨w.heap.size,i,none⟩ _ gx hne)]; exact hcy
    rcases Nat.mod_two_eq_zero_or_one y with hy|hy
    ·have hy0:((y:Int)%2==1)=false:=beq_eq_false_iff_ne.2 (by omega)
     have HY:=bx hy
     clear hy
     go_wp2
     go_roundw
     case rel=>
      obtain⟨o',r⟩:=Qgg (z:=x/2) HOL.out hlt hwo wa HVX.out (by rw[List.getD_eq_getElem?_getD,HVY.out]; rfl) HY.out (by omega) (HRS.out (x/2)) (HBS.out _) HVAL.out
      exact⟨i+1,o',by omega,by go_num,r⟩
     case measure=>simp[intOf]; omega
    ·have hy0:((y:Int)%2==1)=true:=beq_iff_eq.2 (by omega)
     have HY:=bx hy
     clear hy
     go_wp2
     go_roundw
     case rel=>
      have hR:=(HRS.out (x/2)).set i (x/2+2147483648)
      rw[List.set_set]at hR
      obtain⟨o',r⟩:=Qgg (z:=x/2+2147483648) HOL.out hlt hwo wa HVX.out (by rw[List.getD_eq_getElem?_getD,HVY.out]; rfl) HY.out (by omega) hR ((HBS.out _).setCell (Nat.le_refl _) _) HVAL.out
      exact⟨i+1,o',by omega,by go_num,r⟩
     case measure=>simp[intOf]; omega
   ·go_wp2
    go_roundw
    case rel=>
     obtain⟨o',r⟩:=Qgg (z:=x/2) (y:=0) HOL.out hlt hwo wa HVX.out (by rw[List.getD_eq_getElem?_getD,List.getElem?_eq_none (by omega)]; rfl) rfl (by omega) (HRS.out (x/2)) (HBS.out _) HVAL.out
     exact⟨i+1,o',by omega,by go_num,r⟩
    case measure=>simp[intOf]; omega
  ·obtain rfl:i=a.length:=by omega
   have HF:=bx (show Qh Qd o=n/2 by have:=HVAL.out; rw[List.drop_of_length_le (Nat.le_refl _)]at this; simpa [Qh] using this)
   rw[Nat.sub_self,List.replicate_zero,List.append_nil]at hr
   have hrd:=hr.rd_all (c:=a.length) (by have:=HOL.out; omega) (by unfold maxLen; omega)
   go_wp2_with fail
   refine(Qhk _ _ _ o (n/2) hrd hwo _ HOL.out HF.out).mono ?_
   rintro e w' ⟨rfl,kn,rfl,hv⟩
   go_wp2
   go_ret
   exact⟨_,_,_,Nat.le_refl _,rfl,hv,hbl⟩
end Wx

namespace Wx
set_option maxRecDepth 100000
open Go Go.RowKit Go.Proofs

@[irreducible] def bdQ (r x d : Nat) : Nat := (r * 4294967296 + x) / d
@[irreducible] def bdR (r x d : Nat) : Nat := (r * 4294967296 + x) % d
theorem bd_spec {r x d:Nat} (hd:0<d) (hr:r<d) (hx:x<Qd):bdQ r x d*d+bdR r x d=r*Qd+x∧bdR r x d<d∧bdQ r x d<Qd:=by
 unfold bdQ bdR Qd
 unfold Qd at hx
 refine⟨by rw[Nat.mul_comm]; exact Nat.div_add_mod _ _,Nat.mod_lt _ hd,?_⟩
 rw[Nat.div_lt_iff_lt_mul hd]
 have:=Nat.mul_le_mul_right 4294967296 (Nat.succ_le_of_lt hr)
 rw[Nat.succ_mul,Nat.mul_comm d]at this
 omega
theorem bd_eqs {r x d:Nat} (hd:0<d) (hr:r<d) (hx:x<Qd):
  ((r:Int)*4294967296+(x:Int))/(d:Int)%4294967296=((bdQ r x d:Nat):Int)∧((r:Int)*4294967296+(x:Int))%(d:Int)=((bdR r x d:Nat):Int):=by
 obtain⟨_,h2,h3⟩:=bd_spec hd hr hx
 have e:(r:Int)*4294967296+(x:Int)=((r*4294967296+x:Nat):Int):=by omega
 unfold bdQ bdR at *
 rw[e,← Int.natCast_ediv,← Int.natCast_emod]
 unfold Qd at h3
 generalize (r*4294967296+x)/d=q at *
 omega
def RetDigit (w:World) (q r:Nat) (e:Ending) (w':World):Prop:=∃v,e=.returned (.tuple #[v,.int .u32 (r:Int)])∧Num .u32 Qd w' v q∧Below w.heap.size w w'

set_option maxHeartbeats 1000000 in
theorem Qh2 (w:World) (v1:Value) (m d:Nat) (h1:Num .u32 Qd w v1 m) {j:Nat} (hj:Bd j m) (hj1:j≤1000000000) (hd:0<d) (hd1:d<Qd):
  Calls Tryz.prog 123 #[v1,.int .u32 (d:Int)] w (RetDigit w (m/d) (m%d)):=by
 obtain⟨A,c,rfl,ha⟩:=h1
 have hl:=len32 hj
 have hva:=Yg Qz m
 have wa:=Yz Qz m
 clear hj
 generalize digs Qd m=a at *
 have hla:a.length≤100000000:=by omega
 clear hl
 have VA:=Lib.hid hva
 have HD1:=Lib.hid hd1
 have hd2:=K6 hd1
 have hd0:(0:Int)<(d:Int):=by omega
 clear hva hd1
 go_enter Tryz.func123,Tryz.ntmps123
 go_wp2_with (at_make; refine Jm _ rfl _ _ _ rfl .u32 147 Tryz.underlying40 Qcj _ _ rfl rfl (by omega) (by omega) (by omega) ?_; intro w1 hrow hbel hsz)
 rw[Int.toNat_natCast]at hrow
 go_loopw [7,8] (fun s7 s8 wr=>∃(i rest:Nat) (o:List Nat),i≤a.length∧s8=.int .i64 ((i:Int)-1)∧s7=.int .u64 (rest:Int)∧Bx (rest<d)∧Bx (o.length=a.length)∧Wf Qd o∧Row wr .u32 147 w.heap.size o∧Below w.heap.size w wr∧Bx (Qh Qd (a.drop i)=Qh Qd (o.drop i)*d+rest))
  (fun _ s8 _=>(intOf s8+1).toNat)
 case atStart=>exact⟨a.length,0,List.replicate a.length 0,by omega,rfl,rfl,bx hd,bx (by simp),Wf.replicate (by unfold Qd; omega) _,hrow,hbel,bx (by rw[List.drop_of_length_le (by omega),List.drop_of_length_le (by simp)]; simp[Qh])⟩
 case round=>
  obtain⟨i,rest,o,hi,rfl,rfl,HRD,HOL,hwo,hr,hbl,HVAL⟩:=hrel
  clear hrow hbel hsz
  rcases Nat.eq_zero_or_pos i with rfl|hpos
  ·rw[show(((0:Nat):Int)-1) = -1 by omega]
   have h:=HVAL.out
   rw[List.drop_zero,List.drop_zero,VA.out]at h
   obtain⟨e1,e2⟩:=Qd0 h HRD.out
   have HF:=Lib.hid e1.symm
   have HG:=Lib.hid e2.symm
   clear h e1 e2
   have hrd:=hr.rd_all (c:=a.length) (by have:=HOL.out; omega) (by unfold maxLen; omega)
   have hr1:(rest:Int)≤4294967295:=by have:=HRD.out; omega
   go_wp2_with fail
   refine(Qgm _ _ _ o (m/d) hrd hwo _ HOL.out HF.out).mono ?_
   rintro e w' ⟨rfl,v,rfl,hv⟩
   go_wp2
   rw[HG.out]
   go_ret2
   exact⟨_,rfl,hv,hbl⟩
  ·obtain⟨k,rfl⟩:∃k,i=k+1:=⟨i-1,by omega⟩
   rw[show(((k+1:Nat):Int)-1)=(k:Int) by omega]
   obtain⟨gx,ox,vx,rfl,hcx,HVX⟩:=(ha.below hbl).get (i:=k) (by omega)
   obtain⟨vo,hco,HVO⟩:=hr.get (i:=k) (by have:=HOL.out; omega)
   have hcf:=hr.frozen k
   have HVB:Bx (vx<Qd):=bx (wa _ (List.mem_of_getElem? HVX.out))
   have hvx:=K6 HVB.out
   have hk0:(0:Int)≤(k:Int):=by omega
   have hk1:(k:Int)<(a.length:Int):=by omega
   have hrx:(rest:Int)≤4294967294:=by have:=HRD.out; omega
   obtain⟨q1,q2⟩:=bd_eqs hd HRD.out HVB.out
   have Q1:=bx q1
   have Q2:=bx q2
   have HS:=bx (bd_spec hd HRD.out HVB.out)
   clear q1 q2
   go_wp2_with fail
   rw[Q1.out,Q2.out]
   go_roundw
   case rel=>
    refine⟨k,_,o.set k (bdQ rest vx d),by omega,rfl,rfl,bx HS.out.2.1,bx (by rw[List.length_set]; exact HOL.out),hwo.set HS.out.2.2,hr.set _ _,hbl.setCell (Nat.le_refl _) _,bx ?_⟩
    rw[Qdr (by have:=HOL.out; omega),Qdq HVX.out,Qc9,Qc9]
    exact Qh4 HVAL.out HS.out.1
   case measure=>simp[intOf]
end Wx
