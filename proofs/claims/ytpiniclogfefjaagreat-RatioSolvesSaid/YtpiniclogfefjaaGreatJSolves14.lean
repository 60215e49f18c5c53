import Derived.Test.YtpiniclogfefjaaGreatJSolves4
namespace Wx
open Go Go.RowKit Go.Proofs

def Qd:Nat:=4294967296
theorem b32_pow:Qd=2^32:=by unfold Qd; decide
theorem Qz:2≤Qd:=by unfold Qd; omega
theorem len32 {k n:Nat} (h:Bd k n):(digs Qd n).length≤k/32+1:=by rw[b32_pow]; exact h.digs (by omega)
theorem Qcj:(Tryz.prog.info? 147).map (fun i=>(i.zero,i.size,decide (i.bytes≤8)))=some (some (.int .u32 0),1,true):=by kernel_rfl
theorem ncut_any (w:World) (A:Option Addr) (c:Nat) (l:List Nat) (h:Rd w .u32 A c l):
  Calls Tryz.prog 116 #[.slice A l.length c] w (CutPost w A c l):=by
 obtain⟨hl,hm,hcell⟩:=h
 unfold maxLen at hm
 go_enter Tryz.func116,Tryz.ntmps116
 go_wp2
 go_loop [3] (fun v=>∃n:Nat,n≤l.length∧v=.int .i64 n∧(∀b,Qh b (l.take n)=Qh b l)) (fun v=>(intOf v).toNat)
 case atStart=>exact⟨l.length,Nat.le_refl _,rfl,fun b=>by rw[List.take_length]⟩
 case round=>
  obtain⟨n,hn,rfl,hv⟩:=hrel
  have HV:=Lib.hid hv
  clear hv
  rcases Nat.eq_zero_or_pos n with rfl|hpos
  ·go_wp2
   go_ret
   exact⟨0,hn,rfl,rfl,Top.nil,HV.out⟩
  ·obtain⟨b,o,rfl,hc⟩:=hcell (by rintro rfl; simp at hn; omega)
   have hc1:=hc (n-1) (by omega)
   clear hc hcell
   obtain⟨x,hx⟩:∃x,x=l.getD (n-1) 0:=⟨_,rfl⟩
   rw[← hx]at hc1
   have HX:=Lib.hid hx
   clear hx
   obtain⟨k,rfl⟩:∃k,n=k+1:=⟨n-1,by omega⟩
   rw[Nat.add_sub_cancel]at hc1 HX
   rcases Nat.eq_zero_or_pos x with rfl|h0
   ·go_wp2
    go_round
    case rel=>exact⟨k,by omega,by go_num,fun b=>by rw[step_zero (by omega) HX.out.symm]; exact HV.out b⟩
    case measure=>simp[intOf]
   ·have h0':((x:Int)==0)=false:=beq_eq_false_iff_ne.2 (by omega)
    go_wp2
    go_ret
    exact⟨k+1,hn,rfl,rfl,top_of (l:=l) (n:=k) (by omega) (by have:=HX.out; omega),HV.out⟩
theorem Qgm (w:World) (A:Option Addr) (c:Nat) (l:List Nat) (n:Nat) (h:Rd w .u32 A c l) (hw:Wf Qd l) (L:Nat) (hL:l.length=L) (hn:Qh Qd l=n):
  Calls Tryz.prog 116 #[.slice A L c] w (SameNum .u32 Qd w n):=by
 subst hL
 refine(ncut_any w A c l h).mono fun e w' ⟨k,hk,he,hw',ht,hv⟩=>⟨hw',_,he,?_⟩
 rw[← hn,← hv Qd]
 exact Num.of Qz (h.take k) (by rw[List.length_take]; omega) (hw.take k) ht

def RetNumG (w:World) (n:Nat) (e:Ending) (w':World):Prop:=∃g L c,w.heap.size≤g∧e=.returned (.slice (some ⟨g,0,none⟩) L c)∧Num .u32 Qd w' (.slice (some ⟨g,0,none⟩) L c) n∧Below w.heap.size w w'
theorem RetNumG.num {w:World} {n:Nat} {e:Ending} {w':World} (h:RetNumG w n e w'):J6 .u32 Qd w n e w':=by
 obtain⟨g,L,c,_,he,hn,hb⟩:=h
 exact⟨_,he,hn,hb⟩
theorem Qhk (w:World) (A:Option Addr) (c:Nat) (l:List Nat) (n:Nat) (h:Rd w .u32 A c l) (hw:Wf Qd l) (L:Nat) (hL:l.length=L) (hn:Qh Qd l=n):
  Calls Tryz.prog 116 #[.slice A L c] w (fun e w'=>w=w'∧∃k,e=.returned (.slice A k c)∧Num .u32 Qd w (.slice A k c) n):=by
 subst hL
 refine(ncut_any w A c l h).mono fun e w' ⟨k,hk,he,hw',ht,hv⟩=>⟨hw',_,he,?_⟩
 rw[← hn,← hv Qd]
 exact Num.of Qz (h.take k) (by rw[List.length_take]; omega) (hw.take k) ht

theorem Vi (w:World) (n:Nat) (hn:n<Qa):Calls Tryz.prog 99 #[.int .u64 (n:Int)] w (J6 .u32 Qd w n):=by
 have e1:(n:Int)%4294967296=((n%Qd:Nat):Int):=by unfold Qd; omega
 have e2:IntKind.u64.wrap ((n:Int)/4294967296)%4294967296=((n/Qd:Nat):Int):=by
  unfold Qa at hn
  rw[wrap_u64 (by omega) (by omega)]; unfold Qd; omega
 have hw:Wf Qd [n%Qd,n/Qd]:=Wf.cons (Nat.mod_lt _ (by unfold Qd; omega)) (Wf.cons (by unfold Qd; unfold Qa at hn; omega) (Wf.nil _))
 have hv:Qh Qd [n%Qd,n/Qd]=n:=by simp[Qh]; exact Nat.mod_add_div _ _
 have E1:=Lib.hid e1
 have E2:=Lib.hid e2
 have HV:=Lib.hid hv
 clear e1 e2 hv hn
 go_enter Tryz.func99,Tryz.ntmps99
 go_wp2_with fail
 rw[E1.out,E2.out]
 have hR:Row (w.alloc (.cells #[.int .u32 ((n%Qd:Nat):Int),.int .u32 ((n/Qd:Nat):Int)] 147)) .u32 147 w.heap.size [n%Qd,n/Qd]:=Row.new w .u32 147 [n%Qd,n/Qd]
 refine(Qgm _ _ _ [n%Qd,n/Qd] n (hR.rd_all (Nat.le_refl _) (by simp[maxLen])) hw _ rfl HV.out).mono ?_
 rintro e w' ⟨rfl,v,rfl,hv⟩
 go_wp2
 go_ret
 exact⟨v,rfl,hv,(Below.refl _ _).alloc (Nat.le_refl _) _⟩
end Wx

namespace Wx
open Go Go.RowKit Go.Proofs

set_option maxHeartbeats 400000 in
theorem order_dr (w:World) (v1 v2:Value) (m n:Nat) (h1:Num .u32 Qd w v1 m) (h2:Num .u32 Qd w v2 n):
  Calls Tryz.prog 92 #[v1,v2] w (RetDr w (.int .i64 (X0 m n))):=by
 obtain⟨A,c,rfl,ha⟩:=h1
 obtain⟨B,d,rfl,hb⟩:=h2
 have hla:=ha.len
 have hlb:=hb.len
 by_cases hlt:(digs Qd m).length<(digs Qd n).length
 ·have hmn:=Kg Qz hlt
  have e:X0 m n = -1:=by unfold X0; rw[if_pos hmn]
  rw[e]
  go_enter Tryz.func92,Tryz.ntmps92
  go_wp2
  all_goals (go_ret; exact⟨rfl,0,rfl⟩)
 ·by_cases hgt:(digs Qd n).length<(digs Qd m).length
  ·have hmn:=Kg Qz hgt
   have e:X0 m n=1:=by unfold X0; rw[if_neg (by omega),if_pos hmn]
   rw[e]
   go_enter Tryz.func92,Tryz.ntmps92
   go_wp2
   all_goals (go_ret; exact⟨rfl,0,rfl⟩)
  ·have hll:(digs Qd m).length=(digs Qd n).length:=by omega
   have wa:=Yz Qz m
   have wb:=Yz Qz n
   have va:=Yg Qz m
   have vb:=Yg Qz n
   generalize digs Qd m=a at *
   generalize digs Qd n=b at *
   rw[← hll]at hlb ⊢
   have HL:=Lib.hid hll
   have VA:=Lib.hid va
   have VB:=Lib.hid vb
   clear hll va vb hlt hgt hlb
   go_enter Tryz.func92,Tryz.ntmps92
   go_wp2
   go_loopw [5] (fun s5 wr=>∃i:Nat,i≤a.length∧s5=.int .i64 ((i:Int)-1)∧a.drop i=b.drop i∧∃q,wr=w.drewN q)
    (fun s5 _=>(intOf s5+1).toNat)
   case atStart=>exact⟨a.length,Nat.le_refl _,rfl,by rw[List.drop_of_length_le (Nat.le_refl _),List.drop_of_length_le (by have:=HL.out; omega)],0,rfl⟩
   case round=>
    obtain⟨i,hi,rfl,hd,q,rfl⟩:=hrel
    have HD:=Lib.hid hd
    clear hd
    rcases Nat.eq_zero_or_pos i with rfl|hpos
    ·rw[show(((0:Nat):Int)-1) = -1 by omega]
     have:a=b:=by simpa using HD.out
     have e:m=n:=by rw[← VA.out,← VB.out,this]
     have e0:X0 m n=0:=by unfold X0; rw[if_neg (by omega),if_neg (by omega)]
     have E0:=Lib.hid e0
     clear e e0 this
     go_wp2
     go_ret
     exact⟨Up E0.out.symm,_,rfl⟩
    ·obtain⟨j,rfl⟩:∃j,i=j+1:=⟨i-1,by omega⟩
     obtain⟨b1,o1,x,rfl,hcx,HX⟩:=ha.get (i:=j) (by omega)
     obtain⟨b2,o2,y,rfl,hcy,HY⟩:=hb.get (i:=j) (by have:=HL.out; omega)
     rw[show(((j+1:Nat):Int)-1)=(j:Int) by omega]
     have hj0:(0:Int)≤(j:Int):=by omega
     have hj1:(j:Int)<(a.length:Int):=by omega
     rcases Nat.lt_trichotomy x y with hxy|hxy|hxy
     ·have hxy':(x:Int)<(y:Int):=by omega
      have hmn:m<n:=by
       rw[← VA.out,← VB.out]
       exact Qd3 wa HX.out HY.out HD.out hxy
      have E0:Hid (X0 m n = -1):=by show X0 m n = -1; unfold X0; rw[if_pos hmn]
      clear hmn
      go_wp2
      go_quiet (fail)
      go_wp2
      go_ret
      exact⟨Up E0.out.symm,_,World.drewN_drewN _ _ _⟩
     ·subst hxy
      go_wp2
      go_quiet (fail)
      go_wp2
      go_quiet (fail)
      go_wp2
      go_roundw
      case rel=>exact⟨j,by omega,by go_num,drop_get HX.out HY.out HD.out,_,rfl⟩
      case measure=>simp[intOf]
     ·have hxy':(y:Int)<(x:Int):=by omega
      have hmn:n<m:=by
       rw[← VA.out,← VB.out]
       exact Qd3 wb HY.out HX.out HD.out.symm hxy
      have E0:Hid (X0 m n=1):=by show X0 m n=1; unfold X0; rw[if_neg (by omega),if_pos hmn]
      clear hmn
      go_wp2
      go_quiet (fail)
      go_wp2
      go_quiet (fail)
      go_wp2
      go_ret
      exact⟨Up E0.out.symm,_,(World.drewN_drewN _ _ _).trans (World.drewN_drewN _ _ _)⟩
theorem Vv (w:World) (v1 v2:Value) (m n:Nat) (h1:Num .u32 Qd w v1 m) (h2:Num .u32 Qd w v2 n):
  Calls Tryz.prog 92 #[v1,v2] w (Jc w (.int .i64 (X0 m n))):=(order_dr w v1 v2 m n h1 h2).mono fun _ _ h=>h.is
end Wx

namespace Wx
set_option maxRecDepth 100000
open Go Go.RowKit Go.Proofs

theorem wf_getD {b:Nat} (hb:0<b) {l:List Nat} (h:Wf b l) (i:Nat):l.getD i 0<b:=by
 rw[List.getD_eq_getElem?_getD]
 cases e:l[i]? with
 |none=>simpa using hb
 |some z=>exact h _ (List.mem_of_getElem? e)
theorem Qd2 {x y o:List Nat} {i cr vx vy L g:Nat} {wr w0:World} (hol:o.length=i) (hlt:i<L) (wx:Wf Qd x) (wy:Wf Qd y) (hcr:cr≤1) (hwo:Wf Qd o)
  (hx:x.getD i 0=vx) (hy:y.getD i 0=vy) (hr:Row wr .u32 147 g (o++List.replicate (L-i) 0)) (hbl:Below w0.heap.size w0 wr) (hg:w0.heap.size≤g)
  (hval:Qh Qd o+Qd^i*cr=Qh Qd (x.take i)+Qh Qd (y.take i)):
  ∃(o':List Nat),(cr+vx+vy)/Qd≤1∧o'.length=i+1∧Wf Qd o' ∧
   Row (wr.setCell ⟨g,i,none⟩ (.int .u32 (((cr+vx+vy)%Qd:Nat):Int))) .u32 147 g (o'++List.replicate (L-(i+1)) 0) ∧
   Below w0.heap.size w0 (wr.setCell ⟨g,i,none⟩ (.int .u32 (((cr+vx+vy)%Qd:Nat):Int)))∧Qh Qd o'+Qd^(i+1)*((cr+vx+vy)/Qd)=Qh Qd (x.take (i+1))+Qh Qd (y.take (i+1)):=by
 have hvx:vx<Qd:=by rw[← hx]; exact wf_getD (by unfold Qd; omega) wx i
 have hvy:vy<Qd:=by rw[← hy]; exact wf_getD (by unfold Qd; omega) wy i
 refine⟨o++[(cr+vx+vy)%Qd],by unfold Qd at *; omega,by simp[hol],hwo.append (Wf.cons (Nat.mod_lt _ (by unfold Qd; omega)) (Wf.nil _)),?_,hbl.setCell hg _,?_⟩
 ·have h:=hr.set i ((cr+vx+vy)%Qd)
  rw[show L-i=(L-(i+1))+1 by omega,List.replicate_succ,Qb5 hol]at h
  rw[List.append_assoc]
  exact h
 ·exact sum_step hol hval (by rw[Wy,hx]) (by rw[Wy,hy]) (by have:=Nat.mod_add_div (cr+vx+vy) Qd; omega)
theorem nsum_end {b:Nat} {x y o:List Nat} {L cr s:Nat} (hb:2≤b) (wx:Wf b x) (wy:Wf b y) (hlx:x.length<L) (hly:y.length<L) (hval:Qh b o+b^L*cr=Qh b (x.take L)+Qh b (y.take L))
  (hs:Qh b x+Qh b y=s):Qh b o=s:=by
 rw[List.take_of_length_le (by omega),List.take_of_length_le (by omega),hs]at hval
 have h1:=Vc wx
 have h2:=Vc wy
 obtain⟨K,rfl⟩:∃K,L=K+1:=⟨L-1,by omega⟩
 have h3:b^x.length≤b^K:=Nat.pow_le_pow_right (by omega) (by omega)
 have h4:b^y.length≤b^K:=Nat.pow_le_pow_right (by omega) (by omega)
 rcases Nat.eq_zero_or_pos cr with rfl|hc
 ·omega
 ·have h5:b^(K+1)≤b^(K+1)*cr:=Nat.le_mul_of_pos_right _ hc
  have h6:2*b^K≤b^(K+1):=by rw[Nat.pow_succ,Nat.mul_comm]; exact Nat.mul_le_mul_left _ hb
  omega
theorem K6 {x:Nat} (h:x<Qd):(x:Int)≤4294967295:=by unfold Qd at h; omega

set_option maxHeartbeats 1000000 in
theorem sum_num (w:World) (v1 v2:Value) (m n:Nat) (h1:Num .u32 Qd w v1 m) (h2:Num .u32 Qd w v2 n) {j k:Nat} (hj:Bd j m) (hk:Bd k n) (hj1:j≤1000000000) (hk1:k≤1000000000):
  Calls Tryz.prog 91 #[v1,v2] w (J6 .u32 Qd w (m+n)):=by
 obtain⟨A,c,rfl,ha⟩:=h1
 obtain⟨B,d,rfl,hb⟩:=h2
 have hla:=len32 hj
 have hlb:=len32 hk
 have hv:Qh Qd (digs Qd m)+Qh Qd (digs Qd n)=m+n:=by rw[Yg Qz,Yg Qz]
 have wa:=Yz Qz m
 have wb:=Yz Qz n
 clear hj hk
 generalize digs Qd m=x at *
 generalize digs Qd n=y at *
 generalize m+n=s at *
 have HV:=Lib.hid hv
 clear hv
 have hlx:x.length≤1000000000:=by omega
 have hly:y.length≤1000000000:=by omega
 clear hla hlb
 go_enter Tryz.func91,Tryz.ntmps91
 go_upto_region 1 with(fail)
 go_cut [5] (fun v5 w'=>∃L:Nat,v5=.slice (some ⟨w.heap.size,0,none⟩) (L+1) (L+1)∧x.length≤L∧y.length≤L∧L≤1000000000∧Row w' .u32 147 w.heap.size (List.replicate (L+1) 0)∧Below w.heap.size w w')
 case first=>
  by_cases h:x.length<y.length
  ·go_wp2_with (at_make; refine Jm _ rfl _ _ _ rfl .u32 147 Tryz.underlying40 Qcj _ _ rfl rfl (by omega) (by omega) (by omega) ?_; intro w1 hrow hbel hsz)
   go_meet
   case rel=>
    (try rw[show(max (x.length:Int) (y.length:Int)+1).toNat=y.length+1 by omega]at *)
    (try rw[show((y.length:Int)+1).toNat=y.length+1 by omega]at *)
    exact⟨y.length,rfl,by omega,by omega,by omega,hrow,hbel⟩
  ·go_wp2_with (at_make; refine Jm _ rfl _ _ _ rfl .u32 147 Tryz.underlying40 Qcj _ _ rfl rfl (by omega) (by omega) (by omega) ?_; intro w1 hrow hbel hsz)
   go_meet
   case rel=>
    (try rw[show(max (x.length:Int) (y.length:Int)+1).toNat=x.length+1 by omega]at *)
    (try rw[show((x.length:Int)+1).toNat=x.length+1 by omega]at *)
    exact⟨x.length,rfl,by omega,by omega,by omega,hrow,hbel⟩
 case rest=>
  obtain⟨L,rfl,hL1,hL2,hL3,hrow,hbel⟩:=hcut
  go_wp2_with fail
  go_loopw [6,7] (fun s6 s7 wr=>∃(i cr:Nat) (o:List Nat),i≤L+1∧s7=.int .i64 i∧s6=.int .u64 cr∧cr≤1∧o.length=i∧Wf Qd o∧Row wr .u32 147 w.heap.size (o++List.replicate (L+1-i) 0)∧Below w.heap.size w wr∧Qh Qd o+Qd^i*cr=Qh Qd (x.take i)+Qh Qd (y.take i))
   (fun _ s7 _=>L+1-(intOf s7).toNat)
  case atStart=>exact⟨0,0,[],by omega,rfl,rfl,by omega,rfl,Wf.nil _,by simpa using hrow,hbel,by simp[Qh]⟩
  case round=>
   obtain⟨i,cr,o,hi,rfl,rfl,hcr,hol,hwo,hr,hbl,hval⟩:=hrel
   have HVAL:=Lib.hid hval
   have HOL:=Lib.hid hol
   clear hval hol hrow hbel
   by_cases hlt:i<L+1
   ·obtain⟨vo,hco,HVO⟩:=hr.get (i:=i) (by have:=HOL.out; simp; omega)
    have hcf:=hr.frozen i
    by_cases hx1:i<x.length
    ·obtain⟨bx,ox,vx,rfl,hcx,HVX⟩:=(ha.below hbl).get hx1
     have hvx:=K6 (wa _ (List.mem_of_getElem? HVX.out))
     by_cases hy1:i<y.length
     ·obtain⟨by_,oy,vy,rfl,hcy,HVY⟩:=(hb.below hbl).get hy1
      have hvy:=K6 (wb _ (List.mem_of_getElem? HVY.out))
      go_wp2
      go_roundw
      case rel=>
       obtain⟨o',hc',r⟩:=Qd2 (vx:=vx) (vy:=vy) HOL.out hlt wa wb hcr hwo (by rw[List.getD_eq_getElem?_getD,HVX.out]; rfl) (by rw[List.getD_eq_getElem?_getD,HVY.out]; rfl) hr hbl (Nat.le_refl _) HVAL.out
       exact⟨i+1,_,o',by omega,by go_num,by go_num,hc',r⟩
      case measure=>simp[intOf]; omega
     ·go_wp2
      go_roundw
      case rel=>
       obtain⟨o',hc',r⟩:=Qd2 (vx:=vx) (vy:=0) HOL.out hlt wa wb hcr hwo (by rw[List.getD_eq_getElem?_getD,HVX.out]; rfl) (by rw[List.getD_eq_getElem?_getD,List.getElem?_eq_none (by omega)]; rfl) hr hbl (Nat.le_refl _) HVAL.out
       exact⟨i+1,_,o',by omega,by go_num,by go_num,hc',r⟩
      case measure=>simp[intOf]; omega
    ·by_cases hy1:i<y.length
     ·obtain⟨by_,oy,vy,rfl,hcy,HVY⟩:=(hb.below hbl).get hy1
      have hvy:=K6 (wb _ (List.mem_of_getElem? HVY.out))
      go_wp2
      go_roundw
      case rel=>
       obtain⟨o',hc',r⟩:=Qd2 (vx:=0) (vy:=vy) HOL.out hlt wa wb hcr hwo (by rw[List.getD_eq_getElem?_getD,List.getElem?_eq_none (by omega)]; rfl) (by rw[List.getD_eq_getElem?_getD,HVY.out]; rfl) hr hbl (Nat.le_refl _) HVAL.out
       exact⟨i+1,_,o',by omega,by go_num,by go_num,hc',r⟩
      case measure=>simp[intOf]; omega
     ·go_wp2
      go_roundw
      case rel=>
       obtain⟨o',hc',r⟩:=Qd2 (vx:=0) (vy:=0) HOL.out hlt wa wb hcr hwo (by rw[List.getD_eq_getElem?_getD,List.getElem?_eq_none (by omega)]; rfl) (by rw[List.getD_eq_getElem?_getD,List.getElem?_eq_none (by omega)]; rfl) hr hbl (Nat.le_refl _) HVAL.out
       exact⟨i+1,_,o',by omega,by go_num,by go_num,hc',r⟩
      case measure=>simp[intOf]; omega
   ·obtain rfl:i=L+1:=by omega
    have HF:=Lib.hid (nsum_end Qz wa wb (by omega) (by omega) HVAL.out HV.out)
    rw[Nat.sub_self,List.replicate_zero,List.append_nil]at hr
    have hrd:=hr.rd_all (c:=L+1) (by have:=HOL.out; omega) (by unfold maxLen; omega)
    go_wp2_with fail
    refine(Qgm _ _ _ o s hrd hwo _ HOL.out HF.out).mono ?_
    rintro e w' ⟨rfl,v,rfl,hv⟩
    go_wp2
    go_ret
    exact⟨v,rfl,hv,hbl⟩
end Wx

namespace Wx
set_option maxRecDepth 100000
open Go Go.RowKit Go.Proofs

theorem Qde {x y o:List Nat} {i br vx vy s t L g:Nat} {wr w0:World} (hol:o.length=i) (hlt:i<L) (hwo:Wf Qd o) (hs:s+vy+br=vx+Qd*t) (hsl:s<Qd)
  (hx:x.getD i 0=vx) (hy:y.getD i 0=vy) (hr:Row wr .u32 147 g (o++List.replicate (L-i) 0)) (hbl:Below w0.heap.size w0 wr) (hg:w0.heap.size≤g)
  (hval:Qh Qd o+Qh Qd (y.take i)=Qh Qd (x.take i)+Qd^i*br):
  ∃(o':List Nat),o'.length=i+1∧Wf Qd o' ∧
   Row (wr.setCell ⟨g,i,none⟩ (.int .u32 (s:Int))) .u32 147 g (o'++List.replicate (L-(i+1)) 0) ∧
   Below w0.heap.size w0 (wr.setCell ⟨g,i,none⟩ (.int .u32 (s:Int)))∧Qh Qd o'+Qh Qd (y.take (i+1))=Qh Qd (x.take (i+1))+Qd^(i+1)*t:=by
 refine⟨o++[s],by simp[hol],hwo.append (Wf.cons hsl (Wf.nil _)),?_,hbl.setCell hg _,?_⟩
 ·have h:=hr.set i s
  rw[show L-i=(L-(i+1))+1 by omega,List.replicate_succ,Qb5 hol]at h
  rw[List.append_assoc]
  exact h
 ·exact dif_step hol hval (by rw[Wy,hx]) (by rw[Wy,hy]) hs
theorem ndiff_end {b:Nat} {x y o:List Nat} {br m n:Nat} (hwo:Wf b o) (hol:o.length=x.length) (hly:y.length≤x.length) (hval:Qh b o+Qh b (y.take x.length)=Qh b (x.take x.length)+b^x.length*br)
  (hm:Qh b x=m) (hn:Qh b y=n) (hnm:n≤m):Qh b o=m-n:=by
 rw[List.take_of_length_le (Nat.le_refl _),List.take_of_length_le hly,hm,hn]at hval
 have hlt:=Vc hwo
 rw[hol]at hlt
 rcases Nat.eq_zero_or_pos br with rfl|hb
 ·omega
 ·have h5:b^x.length≤b^x.length*br:=Nat.le_mul_of_pos_right _ hb
  omega

set_option maxHeartbeats 1000000 in
theorem Qfi (w:World) (v1 v2:Value) (m n:Nat) (h1:Num .u32 Qd w v1 m) (h2:Num .u32 Qd w v2 n) (hnm:n≤m) {j:Nat} (hj:Bd j m) (hj1:j≤1000000000):
  Calls Tryz.prog 93 #[v1,v2] w (RetNumG w (m-n)):=by
 obtain⟨X,cx,rfl,hx⟩:=h1
 obtain⟨Y,cy,rfl,hy⟩:=h2
 have hla:=len32 hj
 have hyx:(digs Qd n).length≤(digs Qd m).length:=by
  rcases Nat.lt_or_ge (digs Qd m).length (digs Qd n).length with h|h
  ·have:=Kg Qz h; omega
  ·exact h
 have wx:=Yz Qz m
 have wy:=Yz Qz n
 have hvx:=Yg Qz m
 have hvy:=Yg Qz n
 clear hj
 generalize digs Qd m=x at *
 generalize digs Qd n=y at *
 have hlx:x.length≤1000000000:=by omega
 clear hla
 have HX:=Lib.hid hvx
 have HY:=Lib.hid hvy
 clear hvx hvy
 go_enter Tryz.func93,Tryz.ntmps93
 go_wp2_with (at_make; refine Jm _ rfl _ _ _ rfl .u32 147 Tryz.underlying40 Qcj _ _ rfl rfl (by omega) (by omega) (by omega) ?_; intro w1 hrow hbel hsz)
 rw[Int.toNat_natCast]at hrow
 go_loopw [6,7] (fun s6 s7 wr=>∃(i br:Nat) (o:List Nat),i≤x.length∧s7=.int .i64 i∧s6=.int .u64 br∧br≤1∧o.length=i∧Wf Qd o∧Row wr .u32 147 w.heap.size (o++List.replicate (x.length-i) 0)∧Below w.heap.size w wr∧Qh Qd o+Qh Qd (y.take i)=Qh Qd (x.take i)+Qd^i*br)
  (fun _ s7 _=>x.length-(intOf s7).toNat)
 case atStart=>exact⟨0,0,[],by omega,rfl,rfl,by omega,rfl,Wf.nil _,by simpa using hrow,hbel,by simp[Qh]⟩
 case round=>
  obtain⟨i,br,o,hi,rfl,rfl,hcr,hol,hwo,hr,hbl,hval⟩:=hrel
  have HVAL:=Lib.hid hval
  have HOL:=Lib.hid hol
  clear hval hol hrow hbel hsz
  by_cases hlt:i<x.length
  ·obtain⟨bx,ox,vx,rfl,hcx,HVX⟩:=(hx.below hbl).get hlt
   have hvx:=K6 (wx _ (List.mem_of_getElem? HVX.out))
   obtain⟨vo,hco,HVO⟩:=hr.get (i:=i) (by have:=HOL.out; simp; omega)
   have hcf:=hr.frozen i
   have hi0:(0:Int)≤(i:Int):=by omega
   have hi1:(i:Int)<(x.length:Int):=by omega
   by_cases hy1:i<y.length
   ·obtain⟨by_,oy,vy,rfl,hcy,HVY⟩:=(hy.below hbl).get hy1
    have hvy:=K6 (wy _ (List.mem_of_getElem? HVY.out))
    by_cases hlt2:vx<br+vy
    ·skip
     have hlt3:(vx:Int)<(br:Int)+(vy:Int):=by omega
     have E:=Lib.hid (show((vx:Int)+4294967296-((br:Int)+(vy:Int)))=(((vx+4294967296-(br+vy)):Nat):Int) by omega)
     have hw0:(0:Int)≤(vx:Int)+4294967296-((br:Int)+(vy:Int)):=by omega
     go_wp2
     go_roundw
     case rel=>
      obtain⟨o',r⟩:=Qde (vx:=vx) (vy:=vy) (s:=(vx+4294967296-(br+vy))) (t:=1) HOL.out hlt hwo (by unfold Qd; omega) (by unfold Qd; omega) (by rw[List.getD_eq_getElem?_getD,HVX.out]; rfl) (by rw[List.getD_eq_getElem?_getD,HVY.out]; rfl) hr hbl (Nat.le_refl _) HVAL.out
      rw[E.out]
      exact⟨i+1,1,o',by omega,by go_num,rfl,by omega,r⟩
     case measure=>simp[intOf]; omega
    ·skip
     have hlt3:¬((vx:Int)<(br:Int)+(vy:Int)):=by omega
     have E:=Lib.hid (show((vx:Int)-((br:Int)+(vy:Int)))=(((vx-(br+vy)):Nat):Int) by omega)
     have hw0:(0:Int)≤(vx:Int)-((br:Int)+(vy:Int)):=by omega
     go_wp2
     go_roundw
     case rel=>
      obtain⟨o',r⟩:=Qde (vx:=vx) (vy:=vy) (s:=(vx-(br+vy))) (t:=0) HOL.out hlt hwo (by unfold Qd; omega) (by unfold Qd; omega) (by rw[List.getD_eq_getElem?_getD,HVX.out]; rfl) (by rw[List.getD_eq_getElem?_getD,HVY.out]; rfl) hr hbl (Nat.le_refl _) HVAL.out
      rw[E.out]
      exact⟨i+1,0,o',by omega,by go_num,rfl,by omega,r⟩
     case measure=>simp[intOf]; omega
   ·by_cases hlt2:vx<br
    ·skip
     have hlt3:(vx:Int)<(br:Int):=by omega
     have E:=Lib.hid (show((vx:Int)+4294967296-(br:Int))=(((vx+4294967296-(br+0)):Nat):Int) by omega)
     have hw0:(0:Int)≤(vx:Int)+4294967296-(br:Int):=by omega
     go_wp2
     go_roundw
     case rel=>
      obtain⟨o',r⟩:=Qde (vx:=vx) (vy:=0) (s:=(vx+4294967296-(br+0))) (t:=1) HOL.out hlt hwo (by unfold Qd; omega) (by unfold Qd; omega) (by rw[List.getD_eq_getElem?_getD,HVX.out]; rfl) (by rw[List.getD_eq_getElem?_getD,List.getElem?_eq_none (by omega)]; rfl) hr hbl (Nat.le_refl _) HVAL.out
      rw[E.out]
      exact⟨i+1,1,o',by omega,by go_num,rfl,by omega,r⟩
     case measure=>simp[intOf]; omega
    ·skip
     have hlt3:¬((vx:Int)<(br:Int)):=by omega
     have E:=Lib.hid (show((vx:Int)-(br:Int))=(((vx-(br+0)):Nat):Int) by omega)
     have hw0:(0:Int)≤(vx:Int)-(br:Int):=by omega
     go_wp2
     go_roundw
     case rel=>
      obtain⟨o',r⟩:=Qde (vx:=vx) (vy:=0) (s:=(vx-(br+0))) (t:=0) HOL.out hlt hwo (by unfold Qd; omega) (by unfold Qd; omega) (by rw[List.getD_eq_getElem?_getD,HVX.out]; rfl) (by rw[List.getD_eq_getElem?_getD,List.getElem?_eq_none (by omega)]; rfl) hr hbl (Nat.le_refl _) HVAL.out
      rw[E.out]
      exact⟨i+1,0,o',by omega,by go_num,rfl,by omega,r⟩
     case measure=>simp[intOf]; omega
  ·obtain rfl:i=x.length:=by omega
   have HF:=Lib.hid (ndiff_end hwo HOL.out hyx HVAL.out HX.out HY.out hnm)
   rw[Nat.sub_self,List.replicate_zero,List.append_nil]at hr
   have hrd:=hr.rd_all (c:=x.length) (by have:=HOL.out; omega) (by unfold maxLen; omega)
   go_wp2_with fail
   refine(Qhk _ _ _ o (m-n) hrd hwo _ HOL.out HF.out).mono ?_
   rintro e w' ⟨rfl,kn,rfl,hv⟩
   go_wp2
   go_ret
   exact⟨_,_,_,Nat.le_refl _,rfl,hv,hbl⟩
theorem difference_num (w:World) (v1 v2:Value) (m n:Nat) (h1:Num .u32 Qd w v1 m) (h2:Num .u32 Qd w v2 n) (hnm:n≤m) {j:Nat} (hj:Bd j m) (hj1:j≤1000000000):
  Calls Tryz.prog 93 #[v1,v2] w (J6 .u32 Qd w (m-n)):=(Qfi w v1 v2 m n h1 h2 hnm hj hj1).mono fun _ _ h=>h.num
end Wx
